/- Chapter 37: the walk of ModelValid -/
import Derived.Test.YthgdajiipojnoaaDoorW9
import Derived.Test.YthgdajiipojnoaaDoorGl27
namespace Go.Proofs.YthgdajiipojnoaaDoor
open Go.Gl Go.RowKit Tryd
set_option linter.unusedVariables false
set_option linter.unusedSimpArgs false
set_option maxRecDepth 4000

set_option maxHeartbeats 400000 in
theorem c_law37_ModelValid (n : Nat) (M : Bs) (w0 : World) (hM : ∀ b, M b → b < w0.heap.size) (t_ : Model) (Ap01 : Option Addr) (cp01 : Nat) (hp01 : SlR RWeight M w0 Ap01 (t_.Weights).length cp01 (t_.Weights)) (t_' : (List Judged)) (Ap11 : Option Addr) (cp11 : Nat) (hp11 : SlR RJudged M w0 Ap11 (t_').length cp11 (t_')) (t_'' : UInt8) (r : Bool) (hg : law37_ModelValid n t_ t_' t_'' = some r) :
    Calls Tryd.prog 6 [.agg #[.slice (Ap01) ((t_.Weights).length) (cp01)], .slice (Ap11) ((t_').length) (cp11), .int .u8 (((t_''.toNat : Nat) : Int))].toArray w0 (Ret noB w0 fun v w => v = .bool (r)) := by
 unfold law37_ModelValid at hg
 refine enter M noB func6 rfl rfl hM ?_
 intro a s
 replace s := s.es 101 hp01
 replace s := s.es 102 hp11
 apply wR
 refine l_seq rfl (l_box (zs := [sl Ap01 (t_.Weights) cp01]) s 1000 rfl rfl rfl rfl fun b2 a w hb hK s => ?_)
 refine asg s rfl rfl fun a s => ?_
 apply wN
 apply wQ
 apply wQ
 obtain ⟨k3, hg, hk3⟩ := jn_some hg
 refine c_post (fun a w => ∃ (t_4 : Bool), k3 t_4 = some r ∧ St (⟨Tryd.f6.ntmps, M, noB, w0⟩ : Ctx) [(1, sl Ap11 (t_') cp11), (2, .int .u8 (((t_''.toNat : Nat) : Int))), (3, vP b2 0), (24, .bool (t_4))] [(1000, Ob.box b2 [sl Ap01 (t_.Weights) cp01] 24)] [(101, slF RWeight (Ap01) ((t_.Weights).length) (cp01) (t_.Weights)), (102, slF RJudged (Ap11) ((t_').length) (cp11) (t_'))] a w) ?_ ?_
 ·rcases Decidable.em ((30 : Nat) < ((t_.Weights).length)) with hs5 | hs5
  ·have hs5e := decide_eq_true hs5
   replace hg := br_t hg hs5
   have hmx6 := SlR.mx (s.ft 101 rfl)
   apply wL
   refine qq s rfl (y_boxField (o' := 0) s rfl underlying24 rfl rfl rfl) fun a s => ?_
   refine qq s rfl (y_loadBox1 (kk := 1000) s rfl rfl rfl underlying22 rfl) fun a s => ?_
   refine qq s rfl (y_lenSlice s rfl underlying22) fun a s => ?_
   refine qq s rfl (yl_b (y_gtrN (i := ((t_.Weights).length)) (j := 30) s rfl rfl) hs5e) fun a s => ?_
   refine mv s rfl rfl fun a s => ?_
   refine gn s rfl fun a s => ?_
   refine gn s rfl fun a s => ?_
   refine gn s rfl fun a s => ?_
   refine qq s rfl (y_pick_t s rfl rfl) fun a s => ?_
   refine mv s rfl rfl fun a s => ?_
   refine gn s rfl fun a s => ?_
   refine gn s rfl fun a s => ?_
   refine gn s rfl fun a s => ?_
   refine qq s rfl (y_pick_t s rfl rfl) fun a s => ?_
   apply wN
   exact ⟨(true), hg, (s.sb rfl rfl rfl)⟩
  have hs5e := decide_eq_false hs5
  replace hg := br_f hg hs5
  obtain ⟨r7, hr7, hg⟩ := bind_some hg
  rcases Bool.eq_false_or_eq_true (!(r7)) with hs10 | hs10
  ·replace hg := br_t hg hs10
   apply wL
   refine qq s rfl (y_boxField (o' := 0) s rfl underlying24 rfl rfl rfl) fun a s => ?_
   refine qq s rfl (y_loadBox1 (kk := 1000) s rfl rfl rfl underlying22 rfl) fun a s => ?_
   refine qq s rfl (y_lenSlice s rfl underlying22) fun a s => ?_
   refine qq s rfl (yl_b (y_gtrN (i := ((t_.Weights).length)) (j := 30) s rfl rfl) hs5e) fun a s => ?_
   refine mv s rfl rfl fun a s => ?_
   refine gm s rfl rfl fun a s => ?_
   refine gl s rfl (l_call (cap := []) s rfl func21 rfl (by kernel_rfl) rfl rfl (c_law37_lightJudged n _ _ s.lt t_' (Ap11) (cp11) (s.ft 102 rfl) 60 r7 hr7) fun v11 a w hK hp s => ?_)
   obtain rfl := hp
   refine gy s rfl (yl_b (y_not s rfl) hs10) fun a s => ?_
   refine qq s rfl (y_pick_f s rfl rfl) fun a s => ?_
   refine mv s rfl rfl fun a s => ?_
   refine gn s rfl fun a s => ?_
   refine gn s rfl fun a s => ?_
   refine gn s rfl fun a s => ?_
   refine qq s rfl (y_pick_t s rfl rfl) fun a s => ?_
   apply wN
   exact ⟨(true), hg, (s.sb rfl rfl rfl)⟩
  replace hg := br_n hg hs10
  obtain ⟨r13, hr13, hg⟩ := bind_some hg
  apply wL
  refine qq s rfl (y_boxField (o' := 0) s rfl underlying24 rfl rfl rfl) fun a s => ?_
  refine qq s rfl (y_loadBox1 (kk := 1000) s rfl rfl rfl underlying22 rfl) fun a s => ?_
  refine qq s rfl (y_lenSlice s rfl underlying22) fun a s => ?_
  refine qq s rfl (yl_b (y_gtrN (i := ((t_.Weights).length)) (j := 30) s rfl rfl) hs5e) fun a s => ?_
  refine mv s rfl rfl fun a s => ?_
  refine gm s rfl rfl fun a s => ?_
  refine gl s rfl (l_call (cap := []) s rfl func21 rfl (by kernel_rfl) rfl rfl (c_law37_lightJudged n _ _ s.lt t_' (Ap11) (cp11) (s.ft 102 rfl) 60 r7 hr7) fun v16 a w hK hp s => ?_)
  obtain rfl := hp
  refine gy s rfl (yl_b (y_not s rfl) hs10) fun a s => ?_
  refine qq s rfl (y_pick_f s rfl rfl) fun a s => ?_
  refine mv s rfl rfl fun a s => ?_
  refine gy s rfl (y_loadAll (kk := 1000) s rfl rfl underlying24 rfl rfl) fun a s => ?_
  refine gl s rfl (l_call (cap := []) s rfl func12 rfl (by kernel_rfl) rfl rfl (c_r37_Check n _ _ s.lt t_ (Ap01) (cp01) (s.ft 101 rfl) r13 hr13) fun v18 a w hK hp s => ?_)
  obtain rfl := hp
  refine gy s rfl (y_neq s rfl rfl) fun a s => ?_
  refine qq s rfl (y_pick_f s rfl rfl) fun a s => ?_
  apply wN
  exact ⟨(decide (r13 ≠ 0)), hg, (s.sb rfl rfl rfl)⟩
 clear s a; rintro a w ⟨t_4, hg, s⟩
 subst hk3
 refine c_cond s rfl (fun hc20 => ?_) (fun hc20 => ?_)
 ·replace hg := br_t hg hc20
  apply wQ
  obtain ⟨r21, hr21, hg⟩ := bind_some hg
  apply wL
  refine l_seq rfl (l_call (cap := []) s rfl func10 rfl (by kernel_rfl) rfl rfl (c_law37_exampleHolds n _ _ s.lt  r21 hr21) fun v24 a w hK hp s => ?_)
  obtain rfl := hp
  refine asg s rfl rfl fun a s => ?_
  apply wN
  apply wp_ret
  refine p_thenR ?_
  obtain rfl := Option.some.inj hg
  refine fin1 (fn := Tryd.f6) s rfl (r_tmp s rfl) ?_
  exact rfl
 replace hg := br_n hg hc20
 apply wp_skip
 apply pN
 apply wQ
 apply wR
 refine mv s rfl rfl fun a s => ?_
 refine qq s rfl (y_lenSlice s rfl underlying40) fun a s => ?_
 refine mv s rfl rfl fun a s => ?_
 apply wN
 obtain ⟨k26, hg, hk26⟩ := jn_some hg
 refine c_post (fun a w => k26 = some r ∧ St (⟨Tryd.f6.ntmps, M, noB, w0⟩ : Ctx) [(1, sl Ap11 (t_') cp11), (2, .int .u8 (((t_''.toNat : Nat) : Int))), (3, vP b2 0)] [(1000, Ob.box b2 [sl Ap01 (t_.Weights) cp01] 24)] [(101, slF RWeight (Ap01) ((t_.Weights).length) (cp01) (t_.Weights)), (102, slF RJudged (Ap11) ((t_').length) (cp11) (t_'))] a w) ?_ ?_
 ·apply wp_block
  refine c_loop (σ := Nat) (fun m1 a w => ∃ (t_27 : Nat), law37_ModelValid_L0 n t_' k26 m1 t_27 = some r ∧ St (⟨Tryd.f6.ntmps, M, noB, w0⟩ : Ctx) [(1, sl Ap11 (t_') cp11), (2, .int .u8 (((t_''.toNat : Nat) : Int))), (3, vP b2 0), (27, vI ((((t_').length : Nat) : Int))), (28, vI (((t_27 : Nat) : Int)))] [(1000, Ob.box b2 [sl Ap01 (t_.Weights) cp01] 24)] [(101, slF RWeight (Ap01) ((t_.Weights).length) (cp01) (t_.Weights)), (102, slF RJudged (Ap11) ((t_').length) (cp11) (t_'))] a w) (fun m1 => m1) n ⟨(0), hg, (s.sb rfl rfl rfl)⟩ ?_
  clear s a; rintro m1 a w ⟨t_27, hg, s⟩
  rcases m1 with _ | m1
  ·rw [law37_ModelValid_L0] at hg; cases hg
  rw [law37_ModelValid_L0] at hg
  apply wR
  refine qq s rfl (y_lssN (i := t_27) (j := ((t_').length)) s rfl rfl) fun a s => ?_
  apply wN
  apply wQ
  refine c_dec s rfl (fun hc28 => ?_) (fun hc28 => ?_)
  ·replace hg := br_t hg hc28
   have hmx29 := SlR.mx (s.ft 102 rfl)
   apply wp_skip
   apply pN
   apply wQ
   obtain ⟨k30, hg, hk30⟩ := jn_some hg
   refine c_post (fun a w => k30 = some r ∧ St (⟨Tryd.f6.ntmps, M, noB, w0⟩ : Ctx) [(1, sl Ap11 (t_') cp11), (2, .int .u8 (((t_''.toNat : Nat) : Int))), (3, vP b2 0), (27, vI ((((t_').length : Nat) : Int))), (28, vI (((t_27 : Nat) : Int)))] [(1000, Ob.box b2 [sl Ap01 (t_.Weights) cp01] 24)] [(101, slF RWeight (Ap01) ((t_.Weights).length) (cp01) (t_.Weights)), (102, slF RJudged (Ap11) ((t_').length) (cp11) (t_'))] a w) ?_ ?_
   ·apply wp_block
    apply wR
    refine mv s rfl rfl fun a s => ?_
    refine asg s rfl rfl fun a s => ?_
    apply wN
    apply wQ
    obtain ⟨x32, hx32, hg⟩ := bind_some hg
    apply wL
    refine mv s rfl rfl fun a s => ?_
    refine mv s rfl rfl fun a s => ?_
    obtain ⟨p34, hep34, hpp34⟩ := SlR.elemX (s.ft 102 rfl) hx32
    refine qq s rfl (y_elem (sz := 2) (i := t_27) s rfl rfl underlying40 rfl hep34 rfl (lt_of_get hx32)) fun a s => ?_
    refine qq s rfl (y_ptrField (o' := 0) s rfl underlying43 rfl rfl rfl) fun a s => ?_
    obtain ⟨hlq35, hmq35, csq35, hdq35, hcq35⟩ := hpp34
    obtain ⟨Aq351, cq351, rfl, hq351⟩ := RJudged.open hdq35
    replace s := s.ns 104 hq351
    refine qq s rfl (y_ldp1 s rfl hlq35 hmq35 (hcq35 0 _ rfl) underlying29 rfl) fun a s => ?_
    refine qq s rfl (y_lenSlice s rfl underlying29) fun a s => ?_
    refine mv s rfl rfl fun a s => ?_
    apply wN
    apply wp_block
    refine c_loop (σ := Nat) (fun m2 a w => ∃ (t_36 : Nat), law37_ModelValid_L1 n k30 x32 m2 t_36 = some r ∧ St (⟨Tryd.f6.ntmps, M, noB, w0⟩ : Ctx) [(1, sl Ap11 (t_') cp11), (2, .int .u8 (((t_''.toNat : Nat) : Int))), (3, vP b2 0), (7, vI (((t_27 : Nat) : Int))), (27, vI ((((t_').length : Nat) : Int))), (28, vI (((t_27 : Nat) : Int))), (36, vI ((((x32.Readings).length : Nat) : Int))), (37, vI (((t_36 : Nat) : Int)))] [(1000, Ob.box b2 [sl Ap01 (t_.Weights) cp01] 24)] [(101, slF RWeight (Ap01) ((t_.Weights).length) (cp01) (t_.Weights)), (102, slF RJudged (Ap11) ((t_').length) (cp11) (t_'))] a w) (fun m2 => m2) n ⟨(0), hg, (s.sb rfl rfl rfl)⟩ ?_
    clear s a; rintro m2 a w ⟨t_36, hg, s⟩
    rcases m2 with _ | m2
    ·rw [law37_ModelValid_L1] at hg; cases hg
    rw [law37_ModelValid_L1] at hg
    apply wR
    refine qq s rfl (y_lssN (i := t_36) (j := ((x32.Readings).length)) s rfl rfl) fun a s => ?_
    apply wN
    apply wQ
    refine c_dec s rfl (fun hc37 => ?_) (fun hc37 => ?_)
    ·replace hg := br_t hg hc37
     apply wp_skip
     apply pN
     apply wQ
     apply wp_block
     apply wR
     refine mv s rfl rfl fun a s => ?_
     refine asg s rfl rfl fun a s => ?_
     apply wN
     apply wQ
     obtain ⟨x41, hx41, hg⟩ := bind_some hg
     obtain ⟨r43, hr43, hg⟩ := bind_some hg
     apply wL
     refine mv s rfl rfl fun a s => ?_
     refine mv s rfl rfl fun a s => ?_
     obtain ⟨p46, hep46, hpp46⟩ := SlR.elemX (s.ft 102 rfl) hx32
     refine qq s rfl (y_elem (sz := 2) (i := t_27) s rfl rfl underlying40 rfl hep46 rfl (lt_of_get hx32)) fun a s => ?_
     refine qq s rfl (y_ptrField (o' := 0) s rfl underlying43 rfl rfl rfl) fun a s => ?_
     obtain ⟨hlq47, hmq47, csq47, hdq47, hcq47⟩ := hpp46
     obtain ⟨Aq471, cq471, rfl, hq471⟩ := RJudged.open hdq47
     replace s := s.ns 107 hq471
     refine qq s rfl (y_ldp1 s rfl hlq47 hmq47 (hcq47 0 _ rfl) underlying29 rfl) fun a s => ?_
     refine mv s rfl rfl fun a s => ?_
     obtain ⟨p48, hep48, hpp48⟩ := SlR.elemX (s.ft 107 rfl) hx41
     refine qq s rfl (y_elem (sz := 5) (i := t_36) s rfl rfl underlying29 rfl hep48 rfl (lt_of_get hx41)) fun a s => ?_
     obtain ⟨hlq49, hmq49, csq49, hdq49, hcq49⟩ := hpp48
     obtain ⟨Aq495, cq495, rfl, lq492, hq495⟩ := RDeriv.open hdq49
     replace s := s.ns 108 hq495
     refine qq s rfl (y_ldp s rfl hlq49 hmq49 (by simpa using hcq49) underlying31 rfl rfl) fun a s => ?_
     refine l_seq rfl (l_call (cap := []) s rfl func22 rfl (by kernel_rfl) rfl rfl (c_law37_named n _ _ s.lt x41 (Aq495) (cq495) (by omega) (s.ft 108 rfl) r43 hr43) fun v50 a w hK hp s => ?_)
     obtain rfl := hp
     refine qq s rfl (y_not s rfl) fun a s => ?_
     apply wN
     refine c_cond s rfl (fun hc52 => ?_) (fun hc52 => ?_)
     ·replace hg := br_t hg hc52
      apply wQ
      obtain ⟨r53, hr53, hg⟩ := bind_some hg
      apply wL
      refine l_seq rfl (l_call (cap := []) s rfl func10 rfl (by kernel_rfl) rfl rfl (c_law37_exampleHolds n _ _ s.lt  r53 hr53) fun v56 a w hK hp s => ?_)
      obtain rfl := hp
      refine asg s rfl rfl fun a s => ?_
      apply wN
      apply wp_ret
      refine p_inR ?_
      refine p_thenR ?_
      refine p_thenR ?_
      refine p_inR ?_
      refine p_inR ?_
      refine p_thenR ?_
      refine p_thenR ?_
      refine p_inR ?_
      refine p_thenR ?_
      obtain rfl := Option.some.inj hg
      refine fin1 (fn := Tryd.f6) s rfl (r_tmp s rfl) ?_
      exact rfl
     replace hg := br_n hg hc52
     apply wp_skip
     refine p_inN ?_
     apply pN
     obtain ⟨hk58, hg⟩ := chk_some hg
     apply wL
     refine qq s rfl (y_addN (i := t_36) (j := 1) s rfl rfl (in64.2 (by omega))) fun a s => ?_
     refine mv s rfl rfl fun a s => ?_
     apply wN
     exact ⟨m2, Nat.lt_succ_self _, ⟨(t_36 + 1), hg, (s.sb rfl rfl rfl)⟩⟩
    replace hg := br_f hg hc37
    apply wp_exit
    refine p_then ?_
    refine p_then ?_
    refine p_in ?_
    refine p_inN ?_
    apply pN
    exact ⟨hg, (s.sb rfl rfl rfl)⟩
   clear s a; rintro a w ⟨hg, s⟩
   subst hk30
   apply wL
   refine qq s rfl (y_addN (i := t_27) (j := 1) s rfl rfl (in64.2 (by omega))) fun a s => ?_
   refine mv s rfl rfl fun a s => ?_
   apply wN
   exact ⟨m1, Nat.lt_succ_self _, ⟨(t_27 + 1), hg, (s.sb rfl rfl rfl)⟩⟩
  replace hg := br_f hg hc28
  apply wp_exit
  refine p_then ?_
  refine p_then ?_
  refine p_in ?_
  apply pN
  exact ⟨hg, (s.sb rfl rfl rfl)⟩
 clear s a; rintro a w ⟨hg, s⟩
 subst hk26
 apply wQ
 obtain ⟨r59, hr59, hg⟩ := bind_some hg
 apply wL
 refine qq s rfl (y_loadAll (kk := 1000) s rfl rfl underlying24 rfl rfl) fun a s => ?_
 refine mv s rfl rfl fun a s => ?_
 refine mv s rfl rfl fun a s => ?_
 have hu8 := (t_'').toNat_lt
 refine qq s rfl (y_conv s rfl underlying5 underlying3 (in64.2 (by omega))) fun a s => ?_
 clear hu8
 refine qq s rfl (y_remN (i := t_''.toNat) (j := 5) s rfl rfl (by decide)) fun a s => ?_
 refine l_seq rfl (l_call (cap := []) s rfl func23 rfl (by kernel_rfl) rfl rfl (c_model_Train n _ _ s.lt t_ (Ap01) (cp01) (s.ft 101 rfl) t_' (Ap11) (cp11) (s.ft 102 rfl) ((t_''.toNat % 5 : Nat) : Int) r59 hr59) fun v63 a w hK hp s => ?_)
 obtain ⟨Au64a1, cu64a1, rfl, hu64a1⟩ := hp
 replace s := s.ns 110 hu64a1
 refine mv s rfl rfl fun a s => ?_
 refine qq s rfl (y_extract s rfl rfl) fun a s => ?_
 refine qq s rfl (y_extract s rfl rfl) fun a s => ?_
 refine l_seq rfl (l_alloc (zs := [.slice (none) (0) (0)]) s 2309 rfl rfl rfl rfl fun b65 a w hb hK s => ?_)
 refine l_seq rfl (l_store (n := 1) (cs' := [sl Au64a1 (r59.1.Weights) cu64a1]) s 2309 rfl rfl rfl rfl rfl rfl rfl rfl ?_); clear s; intro w hK s; clear hK
 refine asg s rfl rfl fun a s => ?_
 apply wN
 apply wQ
 rcases Decidable.em (r59.2 ≠ 0) with hs66 | hs66
 ·have hs66e := decide_eq_true hs66
  replace hg := br_t hg hs66
  obtain ⟨r67, hr67, hg⟩ := bind_some hg
  apply wL
  refine mv s rfl rfl fun a s => ?_
  refine qq s rfl (yl_b (y_neq s rfl rfl) hs66e) fun a s => ?_
  refine mv s rfl rfl fun a s => ?_
  refine gn s rfl fun a s => ?_
  refine gn s rfl fun a s => ?_
  refine gn s rfl fun a s => ?_
  refine qq s rfl (y_pick_t s rfl rfl) fun a s => ?_
  refine mv s rfl rfl fun a s => ?_
  refine gl s rfl (l_call (cap := []) s rfl func10 rfl (by kernel_rfl) rfl rfl (c_law37_exampleHolds n _ _ s.lt  r67 hr67) fun v70 a w hK hp s => ?_)
  obtain rfl := hp
  refine qq s rfl (y_pick_t s rfl rfl) fun a s => ?_
  refine asg s rfl rfl fun a s => ?_
  apply wN
  apply wp_ret
  obtain rfl := Option.some.inj hg
  refine fin1 (fn := Tryd.f6) s rfl (r_tmp s rfl) ?_
  exact rfl
 have hs66e := decide_eq_false hs66
 replace hg := br_f hg hs66
 obtain ⟨r72, hr72, hg⟩ := bind_some hg
 rcases Decidable.em (r72 = 0) with hs75 | hs75
 ·have hs75e := decide_eq_true hs75
  replace hg := br_t hg hs75
  obtain ⟨r76, hr76, hg⟩ := bind_some hg
  apply wL
  refine mv s rfl rfl fun a s => ?_
  refine qq s rfl (yl_b (y_neq s rfl rfl) hs66e) fun a s => ?_
  refine mv s rfl rfl fun a s => ?_
  refine gy s rfl (y_loadAll (kk := 2309) s rfl rfl underlying24 rfl rfl) fun a s => ?_
  refine gl s rfl (l_call (cap := []) s rfl func11 rfl (by kernel_rfl) rfl rfl (c_model_Check n _ _ s.lt r59.1 (Au64a1) (cu64a1) (s.ft 110 rfl) r72 hr72) fun v79 a w hK hp s => ?_)
  obtain rfl := hp
  refine gy s rfl (yl_b (y_eql s rfl rfl) hs75e) fun a s => ?_
  refine qq s rfl (y_pick_f s rfl rfl) fun a s => ?_
  refine mv s rfl rfl fun a s => ?_
  refine gl s rfl (l_call (cap := []) s rfl func10 rfl (by kernel_rfl) rfl rfl (c_law37_exampleHolds n _ _ s.lt  r76 hr76) fun v81 a w hK hp s => ?_)
  obtain rfl := hp
  refine qq s rfl (y_pick_t s rfl rfl) fun a s => ?_
  refine asg s rfl rfl fun a s => ?_
  apply wN
  apply wp_ret
  obtain rfl := Option.some.inj hg
  refine fin1 (fn := Tryd.f6) s rfl (r_tmp s rfl) ?_
  exact rfl
 have hs75e := decide_eq_false hs75
 replace hg := br_f hg hs75
 apply wL
 refine mv s rfl rfl fun a s => ?_
 refine qq s rfl (yl_b (y_neq s rfl rfl) hs66e) fun a s => ?_
 refine mv s rfl rfl fun a s => ?_
 refine gy s rfl (y_loadAll (kk := 2309) s rfl rfl underlying24 rfl rfl) fun a s => ?_
 refine gl s rfl (l_call (cap := []) s rfl func11 rfl (by kernel_rfl) rfl rfl (c_model_Check n _ _ s.lt r59.1 (Au64a1) (cu64a1) (s.ft 110 rfl) r72 hr72) fun v83 a w hK hp s => ?_)
 obtain rfl := hp
 refine gy s rfl (yl_b (y_eql s rfl rfl) hs75e) fun a s => ?_
 refine qq s rfl (y_pick_f s rfl rfl) fun a s => ?_
 refine mv s rfl rfl fun a s => ?_
 refine gn s rfl fun a s => ?_
 refine qq s rfl (y_pick_f s rfl rfl) fun a s => ?_
 refine asg s rfl rfl fun a s => ?_
 apply wN
 apply wp_ret
 obtain rfl := Option.some.inj hg
 refine fin1 (fn := Tryd.f6) s rfl (r_tmp s rfl) ?_
 exact rfl
end Go.Proofs.YthgdajiipojnoaaDoor
