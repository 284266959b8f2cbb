/- Chapter 37: the walk of ModelTrains -/
import Derived.Test.YthgdajiipojnoaaGreatDoorW10
import Derived.Test.YthgdajiipojnoaaGreatDoorGl27
namespace Go.Proofs.YthgdajiipojnoaaGreatDoor
open Go.Gl Go.RowKit Tryz
set_option linter.unusedVariables false
set_option linter.unusedSimpArgs false
set_option maxRecDepth 4000

set_option maxHeartbeats 400000 in
theorem c_law37_ModelTrains (n : Nat) (M : Bs) (w0 : World) (hM : ∀ b, M b → b < w0.heap.size) (m_ : Model) (Ap01 : Option Addr) (cp01 : Nat) (hp01 : SlR RWeight M w0 Ap01 (m_.Weights).length cp01 (m_.Weights)) (l_ : (List Judged)) (Ap11 : Option Addr) (cp11 : Nat) (hp11 : SlR RJudged M w0 Ap11 (l_).length cp11 (l_)) (rounds_ : Int) (r : Bool) (hg : law37_ModelTrains n m_ l_ rounds_ = some r) :
    Calls Tryz.prog 3 [.agg #[.slice (Ap01) ((m_.Weights).length) (cp01)], .slice (Ap11) ((l_).length) (cp11), .int .i64 (rounds_)].toArray w0 (Ret noB w0 fun v w => v = .bool (r)) := by
 unfold law37_ModelTrains at hg
 refine enter M noB func3 rfl rfl hM ?_
 intro a s
 replace s := s.es 101 hp01
 replace s := s.es 102 hp11
 apply wR
 refine l_seq rfl (l_box (zs := [sl Ap01 (m_.Weights) cp01]) s 1000 rfl rfl rfl rfl fun b2 a w hb hK s => ?_)
 refine asg s rfl rfl fun a s => ?_
 apply wN
 apply wQ
 apply wQ
 obtain ⟨k3, hg, hk3⟩ := jn_some hg
 refine c_post (fun a w => ∃ (t_4 : Bool), k3 t_4 = some r ∧ St (⟨Tryz.f3.ntmps, M, noB, w0⟩ : Ctx) [(1, sl Ap11 (l_) cp11), (2, vI rounds_), (3, vP b2 0), (24, .bool (t_4))] [(1000, Ob.box b2 [sl Ap01 (m_.Weights) cp01] 24)] [(101, slF RWeight (Ap01) ((m_.Weights).length) (cp01) (m_.Weights)), (102, slF RJudged (Ap11) ((l_).length) (cp11) (l_))] a w) ?_ ?_
 ·rcases Decidable.em ((30 : Nat) < ((m_.Weights).length)) with hs5 | hs5
  ·have hs5e := decide_eq_true hs5
   replace hg := br_t hg hs5
   have hmx6 := SlR.mx (s.ft 101 rfl)
   apply wL
   refine qq s rfl (y_boxField (o' := 0) s rfl underlying24 rfl rfl rfl) fun a s => ?_
   refine qq s rfl (y_loadBox1 (kk := 1000) s rfl rfl rfl underlying22 rfl) fun a s => ?_
   refine qq s rfl (y_lenSlice s rfl underlying22) fun a s => ?_
   refine qq s rfl (yl_b (y_gtrN (i := ((m_.Weights).length)) (j := 30) s rfl rfl) hs5e) fun a s => ?_
   refine mv s rfl rfl fun a s => ?_
   refine gn s rfl fun a s => ?_
   refine gn s rfl fun a s => ?_
   refine gn s rfl fun a s => ?_
   refine qq s rfl (y_pick_t s rfl rfl) fun a s => ?_
   refine mv s rfl rfl fun a s => ?_
   refine gn s rfl fun a s => ?_
   refine gn s rfl fun a s => ?_
   refine gn s rfl fun a s => ?_
   refine qq s rfl (y_pick_t s rfl rfl) fun a s => ?_
   apply wN
   exact ⟨(true), hg, (s.sb rfl rfl rfl)⟩
  have hs5e := decide_eq_false hs5
  replace hg := br_f hg hs5
  obtain ⟨r7, hr7, hg⟩ := bind_some hg
  rcases Bool.eq_false_or_eq_true (!(r7)) with hs10 | hs10
  ·replace hg := br_t hg hs10
   apply wL
   refine qq s rfl (y_boxField (o' := 0) s rfl underlying24 rfl rfl rfl) fun a s => ?_
   refine qq s rfl (y_loadBox1 (kk := 1000) s rfl rfl rfl underlying22 rfl) fun a s => ?_
   refine qq s rfl (y_lenSlice s rfl underlying22) fun a s => ?_
   refine qq s rfl (yl_b (y_gtrN (i := ((m_.Weights).length)) (j := 30) s rfl rfl) hs5e) fun a s => ?_
   refine mv s rfl rfl fun a s => ?_
   refine gm s rfl rfl fun a s => ?_
   refine gl s rfl (l_call (cap := []) s rfl func4 rfl (by kernel_rfl) rfl rfl (c_law37_lightJudged n _ _ s.lt l_ (Ap11) (cp11) (s.ft 102 rfl) 60 r7 hr7) fun v11 a w hK hp s => ?_)
   obtain rfl := hp
   refine gy s rfl (yl_b (y_not s rfl) hs10) fun a s => ?_
   refine qq s rfl (y_pick_f s rfl rfl) fun a s => ?_
   refine mv s rfl rfl fun a s => ?_
   refine gn s rfl fun a s => ?_
   refine gn s rfl fun a s => ?_
   refine gn s rfl fun a s => ?_
   refine qq s rfl (y_pick_t s rfl rfl) fun a s => ?_
   apply wN
   exact ⟨(true), hg, (s.sb rfl rfl rfl)⟩
  replace hg := br_n hg hs10
  obtain ⟨r13, hr13, hg⟩ := bind_some hg
  apply wL
  refine qq s rfl (y_boxField (o' := 0) s rfl underlying24 rfl rfl rfl) fun a s => ?_
  refine qq s rfl (y_loadBox1 (kk := 1000) s rfl rfl rfl underlying22 rfl) fun a s => ?_
  refine qq s rfl (y_lenSlice s rfl underlying22) fun a s => ?_
  refine qq s rfl (yl_b (y_gtrN (i := ((m_.Weights).length)) (j := 30) s rfl rfl) hs5e) fun a s => ?_
  refine mv s rfl rfl fun a s => ?_
  refine gm s rfl rfl fun a s => ?_
  refine gl s rfl (l_call (cap := []) s rfl func4 rfl (by kernel_rfl) rfl rfl (c_law37_lightJudged n _ _ s.lt l_ (Ap11) (cp11) (s.ft 102 rfl) 60 r7 hr7) fun v16 a w hK hp s => ?_)
  obtain rfl := hp
  refine gy s rfl (yl_b (y_not s rfl) hs10) fun a s => ?_
  refine qq s rfl (y_pick_f s rfl rfl) fun a s => ?_
  refine mv s rfl rfl fun a s => ?_
  refine gy s rfl (y_loadAll (kk := 1000) s rfl rfl underlying24 rfl rfl) fun a s => ?_
  refine gl s rfl (l_call (cap := []) s rfl func5 rfl (by kernel_rfl) rfl rfl (c_r37_Check n _ _ s.lt m_ (Ap01) (cp01) (s.ft 101 rfl) r13 hr13) fun v18 a w hK hp s => ?_)
  obtain rfl := hp
  refine gy s rfl (y_neq s rfl rfl) fun a s => ?_
  refine qq s rfl (y_pick_f s rfl rfl) fun a s => ?_
  apply wN
  exact ⟨(decide (r13 ≠ 0)), hg, (s.sb rfl rfl rfl)⟩
 clear s a; rintro a w ⟨t_4, hg, s⟩
 subst hk3
 refine c_cond s rfl (fun hc20 => ?_) (fun hc20 => ?_)
 ·replace hg := br_t hg hc20
  apply wQ
  obtain ⟨r21, hr21, hg⟩ := bind_some hg
  apply wL
  refine l_seq rfl (l_call (cap := []) s rfl func6 rfl (by kernel_rfl) rfl rfl (c_law37_exampleHolds n _ _ s.lt  r21 hr21) fun v24 a w hK hp s => ?_)
  obtain rfl := hp
  refine asg s rfl rfl fun a s => ?_
  apply wN
  apply wp_ret
  refine p_thenR ?_
  obtain rfl := Option.some.inj hg
  refine fin1 (fn := Tryz.f3) s rfl (r_tmp s rfl) ?_
  exact rfl
 replace hg := br_n hg hc20
 apply wp_skip
 apply pN
 apply wQ
 obtain ⟨r26, hr26, hg⟩ := bind_some hg
 apply wL
 refine qq s rfl (y_loadAll (kk := 1000) s rfl rfl underlying24 rfl rfl) fun a s => ?_
 refine mv s rfl rfl fun a s => ?_
 refine mv s rfl rfl fun a s => ?_
 refine l_seq rfl (l_call (cap := []) s rfl func7 rfl (by kernel_rfl) rfl rfl (c_model_Train n _ _ s.lt m_ (Ap01) (cp01) (s.ft 101 rfl) l_ (Ap11) (cp11) (s.ft 102 rfl) rounds_ r26 hr26) fun v30 a w hK hp s => ?_)
 obtain ⟨Au31a1, cu31a1, rfl, hu31a1⟩ := hp
 replace s := s.ns 104 hu31a1
 refine mv s rfl rfl fun a s => ?_
 refine qq s rfl (y_extract s rfl rfl) fun a s => ?_
 refine qq s rfl (y_extract s rfl rfl) fun a s => ?_
 refine l_seq rfl (l_alloc (zs := [.slice (none) (0) (0)]) s 1307 rfl rfl rfl rfl fun b32 a w hb hK s => ?_)
 refine l_seq rfl (l_store (n := 1) (cs' := [sl Au31a1 (r26.1.Weights) cu31a1]) s 1307 rfl rfl rfl rfl rfl rfl rfl rfl ?_); clear s; intro w hK s; clear hK
 refine asg s rfl rfl fun a s => ?_
 apply wN
 apply wQ
 obtain ⟨r33, hr33, hg⟩ := bind_some hg
 apply wL
 refine qq s rfl (y_loadAll (kk := 1000) s rfl rfl underlying24 rfl rfl) fun a s => ?_
 refine mv s rfl rfl fun a s => ?_
 refine mv s rfl rfl fun a s => ?_
 refine l_seq rfl (l_call (cap := []) s rfl func8 rfl (by kernel_rfl) rfl rfl (c_r37_Train n _ _ s.lt m_ (Ap01) (cp01) (s.ft 101 rfl) l_ (Ap11) (cp11) (s.ft 102 rfl) rounds_ r33 hr33) fun v37 a w hK hp s => ?_)
 obtain ⟨Au38a1, cu38a1, rfl, hu38a1⟩ := hp
 replace s := s.ns 106 hu38a1
 refine mv s rfl rfl fun a s => ?_
 refine qq s rfl (y_extract s rfl rfl) fun a s => ?_
 refine qq s rfl (y_extract s rfl rfl) fun a s => ?_
 refine l_seq rfl (l_alloc (zs := [.slice (none) (0) (0)]) s 1407 rfl rfl rfl rfl fun b39 a w hb hK s => ?_)
 refine l_seq rfl (l_store (n := 1) (cs' := [sl Au38a1 (r33.1.Weights) cu38a1]) s 1407 rfl rfl rfl rfl rfl rfl rfl rfl ?_); clear s; intro w hK s; clear hK
 refine asg s rfl rfl fun a s => ?_
 apply wN
 apply wQ
 rcases Decidable.em (r26.2 = r33.2) with hs40 | hs40
 ·have hs40e := decide_eq_true hs40
  replace hg := br_t hg hs40
  obtain ⟨r41, hr41, hg⟩ := bind_some hg
  rcases Bool.eq_false_or_eq_true (r41) with hs44 | hs44
  ·replace hg := br_t hg hs44
   obtain ⟨r45, hr45, hg⟩ := bind_some hg
   apply wL
   refine mv s rfl rfl fun a s => ?_
   refine mv s rfl rfl fun a s => ?_
   refine qq s rfl (yl_b (y_eql s rfl rfl) hs40e) fun a s => ?_
   refine mv s rfl rfl fun a s => ?_
   refine gy s rfl (y_loadAll (kk := 1307) s rfl rfl underlying24 rfl rfl) fun a s => ?_
   refine gy s rfl (y_loadAll (kk := 1407) s rfl rfl underlying24 rfl rfl) fun a s => ?_
   refine gl s rfl (l_call (cap := []) s rfl func9 rfl (by kernel_rfl) rfl rfl (c_r37_Same n _ _ s.lt r26.1 (Au31a1) (cu31a1) (s.ft 104 rfl) r33.1 (Au38a1) (cu38a1) (s.ft 106 rfl) r41 hr41) fun v48 a w hK hp s => ?_)
   obtain rfl := hp.trans (congrArg Value.bool hs44)
   refine qq s rfl (y_pick_t s rfl rfl) fun a s => ?_
   refine mv s rfl rfl fun a s => ?_
   refine gl s rfl (l_call (cap := []) s rfl func6 rfl (by kernel_rfl) rfl rfl (c_law37_exampleHolds n _ _ s.lt  r45 hr45) fun v50 a w hK hp s => ?_)
   obtain rfl := hp
   refine qq s rfl (y_pick_t s rfl rfl) fun a s => ?_
   refine asg s rfl rfl fun a s => ?_
   apply wN
   apply wp_ret
   obtain rfl := Option.some.inj hg
   refine fin1 (fn := Tryz.f3) s rfl (r_tmp s rfl) ?_
   exact rfl
  replace hg := br_n hg hs44
  apply wL
  refine mv s rfl rfl fun a s => ?_
  refine mv s rfl rfl fun a s => ?_
  refine qq s rfl (yl_b (y_eql s rfl rfl) hs40e) fun a s => ?_
  refine mv s rfl rfl fun a s => ?_
  refine gy s rfl (y_loadAll (kk := 1307) s rfl rfl underlying24 rfl rfl) fun a s => ?_
  refine gy s rfl (y_loadAll (kk := 1407) s rfl rfl underlying24 rfl rfl) fun a s => ?_
  refine gl s rfl (l_call (cap := []) s rfl func9 rfl (by kernel_rfl) rfl rfl (c_r37_Same n _ _ s.lt r26.1 (Au31a1) (cu31a1) (s.ft 104 rfl) r33.1 (Au38a1) (cu38a1) (s.ft 106 rfl) r41 hr41) fun v52 a w hK hp s => ?_)
  obtain rfl := hp.trans (congrArg Value.bool hs44)
  refine qq s rfl (y_pick_t s rfl rfl) fun a s => ?_
  refine mv s rfl rfl fun a s => ?_
  refine gn s rfl fun a s => ?_
  refine qq s rfl (y_pick_f s rfl rfl) fun a s => ?_
  refine asg s rfl rfl fun a s => ?_
  apply wN
  apply wp_ret
  obtain rfl := Option.some.inj hg
  refine fin1 (fn := Tryz.f3) s rfl (r_tmp s rfl) ?_
  exact rfl
 have hs40e := decide_eq_false hs40
 replace hg := br_f hg hs40
 apply wL
 refine mv s rfl rfl fun a s => ?_
 refine mv s rfl rfl fun a s => ?_
 refine qq s rfl (yl_b (y_eql s rfl rfl) hs40e) fun a s => ?_
 refine mv s rfl rfl fun a s => ?_
 refine gn s rfl fun a s => ?_
 refine gn s rfl fun a s => ?_
 refine gn s rfl fun a s => ?_
 refine qq s rfl (y_pick_f s rfl rfl) fun a s => ?_
 refine mv s rfl rfl fun a s => ?_
 refine gn s rfl fun a s => ?_
 refine qq s rfl (y_pick_f s rfl rfl) fun a s => ?_
 refine asg s rfl rfl fun a s => ?_
 apply wN
 apply wp_ret
 obtain rfl := Option.some.inj hg
 refine fin1 (fn := Tryz.f3) s rfl (r_tmp s rfl) ?_
 exact rfl
end Go.Proofs.YthgdajiipojnoaaGreatDoor
