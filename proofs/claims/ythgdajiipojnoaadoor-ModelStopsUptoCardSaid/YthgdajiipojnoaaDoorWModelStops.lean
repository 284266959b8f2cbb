/- Chapter 37: the walk of ModelStops -/
import Derived.Test.YthgdajiipojnoaaDoorW9
import Derived.Test.YthgdajiipojnoaaDoorGl27
namespace Go.Proofs.YthgdajiipojnoaaDoor
open Go.Gl Go.RowKit Tryd
set_option linter.unusedVariables false
set_option linter.unusedSimpArgs false
set_option maxRecDepth 4000

set_option maxHeartbeats 400000 in
theorem c_law37_ModelStops (n : Nat) (M : Bs) (w0 : World) (hM : ∀ b, M b → b < w0.heap.size) (t_ : Model) (Ap01 : Option Addr) (cp01 : Nat) (hp01 : SlR RWeight M w0 Ap01 (t_.Weights).length cp01 (t_.Weights)) (t_' : (List Judged)) (Ap11 : Option Addr) (cp11 : Nat) (hp11 : SlR RJudged M w0 Ap11 (t_').length cp11 (t_')) (t_'' : (UInt8 × UInt8)) (r : Bool) (hg : law37_ModelStops n t_ t_' t_'' = some r) :
    Calls Tryd.prog 9 [.agg #[.slice (Ap01) ((t_.Weights).length) (cp01)], .slice (Ap11) ((t_').length) (cp11), .agg #[.int .u8 (((t_''.1.toNat : Nat) : Int)), .int .u8 (((t_''.2.toNat : Nat) : Int))]].toArray w0 (Ret noB w0 fun v w => v = .bool (r)) := by
 unfold law37_ModelStops at hg
 refine enter M noB func9 rfl rfl hM ?_
 intro a s
 replace s := s.es 101 hp01
 replace s := s.es 102 hp11
 apply wR
 refine l_seq rfl (l_box (zs := [sl Ap01 (t_.Weights) cp01]) s 1000 rfl rfl rfl rfl fun b3 a w hb hK s => ?_)
 refine l_seq rfl (l_box (zs := [.int .u8 (((t_''.1.toNat : Nat) : Int)), .int .u8 (((t_''.2.toNat : Nat) : Int))]) s 1001 rfl rfl rfl rfl fun b4 a w hb hK s => ?_)
 refine asg s rfl rfl fun a s => ?_
 apply wN
 apply wQ
 apply wQ
 obtain ⟨k5, hg, hk5⟩ := jn_some hg
 refine c_post (fun a w => ∃ (t_6 : Bool), k5 t_6 = some r ∧ St (⟨Tryd.f9.ntmps, M, noB, w0⟩ : Ctx) [(1, sl Ap11 (t_') cp11), (3, vP b3 0), (5, vP b4 0), (32, .bool (t_6))] [(1000, Ob.box b3 [sl Ap01 (t_.Weights) cp01] 24), (1001, Ob.box b4 [.int .u8 (((t_''.1.toNat : Nat) : Int)), .int .u8 (((t_''.2.toNat : Nat) : Int))] 52)] [(101, slF RWeight (Ap01) ((t_.Weights).length) (cp01) (t_.Weights)), (102, slF RJudged (Ap11) ((t_').length) (cp11) (t_'))] a w) ?_ ?_
 ·rcases Decidable.em ((30 : Nat) < ((t_.Weights).length)) with hs7 | hs7
  ·have hs7e := decide_eq_true hs7
   replace hg := br_t hg hs7
   have hmx8 := SlR.mx (s.ft 101 rfl)
   apply wL
   refine qq s rfl (y_boxField (o' := 0) s rfl underlying24 rfl rfl rfl) fun a s => ?_
   refine qq s rfl (y_loadBox1 (kk := 1000) s rfl rfl rfl underlying22 rfl) fun a s => ?_
   refine qq s rfl (y_lenSlice s rfl underlying22) fun a s => ?_
   refine qq s rfl (yl_b (y_gtrN (i := ((t_.Weights).length)) (j := 30) s rfl rfl) hs7e) fun a s => ?_
   refine mv s rfl rfl fun a s => ?_
   refine gn s rfl fun a s => ?_
   refine gn s rfl fun a s => ?_
   refine gn s rfl fun a s => ?_
   refine qq s rfl (y_pick_t s rfl rfl) fun a s => ?_
   refine mv s rfl rfl fun a s => ?_
   refine gn s rfl fun a s => ?_
   refine gn s rfl fun a s => ?_
   refine gn s rfl fun a s => ?_
   refine qq s rfl (y_pick_t s rfl rfl) fun a s => ?_
   apply wN
   exact ⟨(true), hg, (s.sb rfl rfl rfl)⟩
  have hs7e := decide_eq_false hs7
  replace hg := br_f hg hs7
  obtain ⟨r9, hr9, hg⟩ := bind_some hg
  rcases Bool.eq_false_or_eq_true (!(r9)) with hs12 | hs12
  ·replace hg := br_t hg hs12
   apply wL
   refine qq s rfl (y_boxField (o' := 0) s rfl underlying24 rfl rfl rfl) fun a s => ?_
   refine qq s rfl (y_loadBox1 (kk := 1000) s rfl rfl rfl underlying22 rfl) fun a s => ?_
   refine qq s rfl (y_lenSlice s rfl underlying22) fun a s => ?_
   refine qq s rfl (yl_b (y_gtrN (i := ((t_.Weights).length)) (j := 30) s rfl rfl) hs7e) fun a s => ?_
   refine mv s rfl rfl fun a s => ?_
   refine gm s rfl rfl fun a s => ?_
   refine gl s rfl (l_call (cap := []) s rfl func21 rfl (by kernel_rfl) rfl rfl (c_law37_lightJudged n _ _ s.lt t_' (Ap11) (cp11) (s.ft 102 rfl) 60 r9 hr9) fun v13 a w hK hp s => ?_)
   obtain rfl := hp
   refine gy s rfl (yl_b (y_not s rfl) hs12) fun a s => ?_
   refine qq s rfl (y_pick_f s rfl rfl) fun a s => ?_
   refine mv s rfl rfl fun a s => ?_
   refine gn s rfl fun a s => ?_
   refine gn s rfl fun a s => ?_
   refine gn s rfl fun a s => ?_
   refine qq s rfl (y_pick_t s rfl rfl) fun a s => ?_
   apply wN
   exact ⟨(true), hg, (s.sb rfl rfl rfl)⟩
  replace hg := br_n hg hs12
  obtain ⟨r15, hr15, hg⟩ := bind_some hg
  apply wL
  refine qq s rfl (y_boxField (o' := 0) s rfl underlying24 rfl rfl rfl) fun a s => ?_
  refine qq s rfl (y_loadBox1 (kk := 1000) s rfl rfl rfl underlying22 rfl) fun a s => ?_
  refine qq s rfl (y_lenSlice s rfl underlying22) fun a s => ?_
  refine qq s rfl (yl_b (y_gtrN (i := ((t_.Weights).length)) (j := 30) s rfl rfl) hs7e) fun a s => ?_
  refine mv s rfl rfl fun a s => ?_
  refine gm s rfl rfl fun a s => ?_
  refine gl s rfl (l_call (cap := []) s rfl func21 rfl (by kernel_rfl) rfl rfl (c_law37_lightJudged n _ _ s.lt t_' (Ap11) (cp11) (s.ft 102 rfl) 60 r9 hr9) fun v18 a w hK hp s => ?_)
  obtain rfl := hp
  refine gy s rfl (yl_b (y_not s rfl) hs12) fun a s => ?_
  refine qq s rfl (y_pick_f s rfl rfl) fun a s => ?_
  refine mv s rfl rfl fun a s => ?_
  refine gy s rfl (y_loadAll (kk := 1000) s rfl rfl underlying24 rfl rfl) fun a s => ?_
  refine gl s rfl (l_call (cap := []) s rfl func12 rfl (by kernel_rfl) rfl rfl (c_r37_Check n _ _ s.lt t_ (Ap01) (cp01) (s.ft 101 rfl) r15 hr15) fun v20 a w hK hp s => ?_)
  obtain rfl := hp
  refine gy s rfl (y_neq s rfl rfl) fun a s => ?_
  refine qq s rfl (y_pick_f s rfl rfl) fun a s => ?_
  apply wN
  exact ⟨(decide (r15 ≠ 0)), hg, (s.sb rfl rfl rfl)⟩
 clear s a; rintro a w ⟨t_6, hg, s⟩
 subst hk5
 refine c_cond s rfl (fun hc22 => ?_) (fun hc22 => ?_)
 ·replace hg := br_t hg hc22
  apply wQ
  obtain ⟨r23, hr23, hg⟩ := bind_some hg
  apply wL
  refine l_seq rfl (l_call (cap := []) s rfl func10 rfl (by kernel_rfl) rfl rfl (c_law37_exampleHolds n _ _ s.lt  r23 hr23) fun v26 a w hK hp s => ?_)
  obtain rfl := hp
  refine asg s rfl rfl fun a s => ?_
  apply wN
  apply wp_ret
  refine p_thenR ?_
  obtain rfl := Option.some.inj hg
  refine fin1 (fn := Tryd.f9) s rfl (r_tmp s rfl) ?_
  exact rfl
 replace hg := br_n hg hc22
 apply wp_skip
 apply pN
 apply wQ
 refine d_plan s [] [(0, some 0), (1, some 1001), (2, some 0), (3, some 0), (4, some 0), (5, some 1001), (6, some 0), (7, some 0), (8, some 0), (9, some 0)] rfl (by kernel_rfl) (by kernel_rfl) rfl ?_; clear s; intro wr hZ s; have hR := s.wd
 refine qt s hR rfl (y_arrIndex (o' := 0) (i := 0) (sz := 1) s rfl rfl underlying52 rfl rfl (by omega) rfl) fun a s => ?_
 refine qt s hR rfl (y_loadBox1 (kk := 1001) s rfl rfl rfl underlying5 rfl) fun a s => ?_
 have hu8 := (t_''.1).toNat_lt
 refine qt s hR rfl (y_conv s rfl underlying5 underlying3 (in64.2 (by omega))) fun a s => ?_
 clear hu8
 refine qt s hR rfl (y_remN (i := t_''.1.toNat) (j := 4) s rfl rfl (by decide)) fun a s => ?_
 refine qt s hR rfl (y_arrIndex (o' := 1) (i := 1) (sz := 1) s rfl rfl underlying52 rfl rfl (by omega) rfl) fun a s => ?_
 refine qt s hR rfl (y_loadBox1 (kk := 1001) s rfl rfl rfl underlying5 rfl) fun a s => ?_
 have hu8 := (t_''.2).toNat_lt
 refine qt s hR rfl (y_conv s rfl underlying5 underlying3 (in64.2 (by omega))) fun a s => ?_
 clear hu8
 refine qt s hR rfl (y_remN (i := t_''.2.toNat) (j := 4) s rfl rfl (by decide)) fun a s => ?_
 refine qt s hR rfl (y_assign s rfl) fun a s => ?_
 refine qt s hR rfl (y_assign s rfl) fun a s => ?_
 clear hR hZ
 apply pN
 apply wQ
 obtain ⟨r28, hr28, hg⟩ := bind_some hg
 apply wL
 refine qq s rfl (y_loadAll (kk := 1000) s rfl rfl underlying24 rfl rfl) fun a s => ?_
 refine mv s rfl rfl fun a s => ?_
 refine mv s rfl rfl fun a s => ?_
 refine l_seq rfl (l_call (cap := []) s rfl func23 rfl (by kernel_rfl) rfl rfl (c_model_Train n _ _ s.lt t_ (Ap01) (cp01) (s.ft 101 rfl) t_' (Ap11) (cp11) (s.ft 102 rfl) ((t_''.1.toNat % 4 : Nat) : Int) r28 hr28) fun v32 a w hK hp s => ?_)
 obtain ⟨Au33a1, cu33a1, rfl, hu33a1⟩ := hp
 replace s := s.ns 104 hu33a1
 refine mv s rfl rfl fun a s => ?_
 refine qq s rfl (y_extract s rfl rfl) fun a s => ?_
 refine qq s rfl (y_extract s rfl rfl) fun a s => ?_
 refine l_seq rfl (l_alloc (zs := [.slice (none) (0) (0)]) s 1407 rfl rfl rfl rfl fun b34 a w hb hK s => ?_)
 refine l_seq rfl (l_store (n := 1) (cs' := [sl Au33a1 (r28.1.Weights) cu33a1]) s 1407 rfl rfl rfl rfl rfl rfl rfl rfl ?_); clear s; intro w hK s; clear hK
 refine asg s rfl rfl fun a s => ?_
 apply wN
 apply wQ
 apply wQ
 obtain ⟨r35, hr35, hg⟩ := bind_some hg
 apply wL
 refine qq s rfl (y_loadAll (kk := 1407) s rfl rfl underlying24 rfl rfl) fun a s => ?_
 refine l_seq rfl (l_call (cap := []) s rfl func12 rfl (by kernel_rfl) rfl rfl (c_r37_Check n _ _ s.lt r28.1 (Au33a1) (cu33a1) (s.ft 104 rfl) r35 hr35) fun v38 a w hK hp s => ?_)
 obtain rfl := hp
 refine qq s rfl (y_neq s rfl rfl) fun a s => ?_
 apply wN
 refine c_dec s rfl (fun hc40 => ?_) (fun hc40 => ?_)
 ·replace hg := br_t hg hc40
  apply wQ
  obtain ⟨r41, hr41, hg⟩ := bind_some hg
  apply wL
  refine l_seq rfl (l_call (cap := []) s rfl func10 rfl (by kernel_rfl) rfl rfl (c_law37_exampleHolds n _ _ s.lt  r41 hr41) fun v44 a w hK hp s => ?_)
  obtain rfl := hp
  refine asg s rfl rfl fun a s => ?_
  apply wN
  apply wp_ret
  refine p_thenR ?_
  obtain rfl := Option.some.inj hg
  refine fin1 (fn := Tryd.f9) s rfl (r_tmp s rfl) ?_
  exact rfl
 replace hg := br_f hg hc40
 apply wp_skip
 apply pN
 apply wQ
 obtain ⟨r46, hr46, hg⟩ := bind_some hg
 apply wL
 refine qq s rfl (y_loadAll (kk := 1407) s rfl rfl underlying24 rfl rfl) fun a s => ?_
 refine mv s rfl rfl fun a s => ?_
 refine mv s rfl rfl fun a s => ?_
 refine l_seq rfl (l_call (cap := []) s rfl func23 rfl (by kernel_rfl) rfl rfl (c_model_Train n _ _ s.lt r28.1 (Au33a1) (cu33a1) (s.ft 104 rfl) t_' (Ap11) (cp11) (s.ft 102 rfl) ((t_''.2.toNat % 4 : Nat) : Int) r46 hr46) fun v50 a w hK hp s => ?_)
 obtain ⟨Au51a1, cu51a1, rfl, hu51a1⟩ := hp
 replace s := s.ns 106 hu51a1
 refine mv s rfl rfl fun a s => ?_
 refine qq s rfl (y_extract s rfl rfl) fun a s => ?_
 refine qq s rfl (y_extract s rfl rfl) fun a s => ?_
 refine l_seq rfl (l_alloc (zs := [.slice (none) (0) (0)]) s 1707 rfl rfl rfl rfl fun b52 a w hb hK s => ?_)
 refine l_seq rfl (l_store (n := 1) (cs' := [sl Au51a1 (r46.1.Weights) cu51a1]) s 1707 rfl rfl rfl rfl rfl rfl rfl rfl ?_); clear s; intro w hK s; clear hK
 refine asg s rfl rfl fun a s => ?_
 apply wN
 apply wQ
 obtain ⟨hk53, hg⟩ := chk_some hg
 obtain ⟨r54, hr54, hg⟩ := bind_some hg
 apply wL
 refine qq s rfl (y_loadAll (kk := 1000) s rfl rfl underlying24 rfl rfl) fun a s => ?_
 refine mv s rfl rfl fun a s => ?_
 refine mv s rfl rfl fun a s => ?_
 refine mv s rfl rfl fun a s => ?_
 refine qq s rfl (y_addN (i := (t_''.1.toNat % 4)) (j := (t_''.2.toNat % 4)) s rfl rfl (in64.2 (by omega))) fun a s => ?_
 refine l_seq rfl (l_call (cap := []) s rfl func23 rfl (by kernel_rfl) rfl rfl (c_model_Train n _ _ s.lt t_ (Ap01) (cp01) (s.ft 101 rfl) t_' (Ap11) (cp11) (s.ft 102 rfl) ((t_''.1.toNat % 4 + t_''.2.toNat % 4 : Nat) : Int) r54 hr54) fun v58 a w hK hp s => ?_)
 obtain ⟨Au59a1, cu59a1, rfl, hu59a1⟩ := hp
 replace s := s.ns 108 hu59a1
 refine mv s rfl rfl fun a s => ?_
 refine qq s rfl (y_extract s rfl rfl) fun a s => ?_
 refine qq s rfl (y_extract s rfl rfl) fun a s => ?_
 refine l_seq rfl (l_alloc (zs := [.slice (none) (0) (0)]) s 1809 rfl rfl rfl rfl fun b60 a w hb hK s => ?_)
 refine l_seq rfl (l_store (n := 1) (cs' := [sl Au59a1 (r54.1.Weights) cu59a1]) s 1809 rfl rfl rfl rfl rfl rfl rfl rfl ?_); clear s; intro w hK s; clear hK
 refine asg s rfl rfl fun a s => ?_
 apply wN
 apply wQ
 apply wQ
 obtain ⟨k61, hg, hk61⟩ := jn_some hg
 refine c_post (fun a w => ∃ (t_62 : Bool), k61 t_62 = some r ∧ St (⟨Tryd.f9.ntmps, M, noB, w0⟩ : Ctx) [(1, sl Ap11 (t_') cp11), (10, vI (r28.2)), (13, vP b60 0), (85, .bool (t_62))] [(1809, Ob.box b60 [sl Au59a1 (r54.1.Weights) cu59a1] 24)] [(102, slF RJudged (Ap11) ((t_').length) (cp11) (t_')), (108, slF RWeight (Au59a1) ((r54.1.Weights).length) (cu59a1) (r54.1.Weights))] a w) ?_ ?_
 ·rcases Decidable.em (r28.2 ≠ r54.2) with hs63 | hs63
  ·have hs63e := decide_eq_true hs63
   replace hg := br_t hg hs63
   apply wL
   refine mv s rfl rfl fun a s => ?_
   refine mv s rfl rfl fun a s => ?_
   refine qq s rfl (yl_b (y_neq s rfl rfl) hs63e) fun a s => ?_
   refine mv s rfl rfl fun a s => ?_
   refine gn s rfl fun a s => ?_
   refine gn s rfl fun a s => ?_
   refine gn s rfl fun a s => ?_
   refine gn s rfl fun a s => ?_
   refine gn s rfl fun a s => ?_
   refine gn s rfl fun a s => ?_
   refine gn s rfl fun a s => ?_
   refine gn s rfl fun a s => ?_
   refine gn s rfl fun a s => ?_
   refine gn s rfl fun a s => ?_
   refine gn s rfl fun a s => ?_
   refine gn s rfl fun a s => ?_
   refine qq s rfl (y_pick_t s rfl rfl) fun a s => ?_
   apply wN
   exact ⟨(true), hg, (s.sb rfl rfl rfl)⟩
  have hs63e := decide_eq_false hs63
  replace hg := br_f hg hs63
  rcases Decidable.em (r28.2 = 0) with hs64 | hs64
  ·have hs64e := decide_eq_true hs64
   replace hg := br_t hg hs64
   rcases Decidable.em (r46.2 ≠ 0) with hs65 | hs65
   ·have hs65e := decide_eq_true hs65
    replace hg := br_t hg hs65
    apply wL
    refine mv s rfl rfl fun a s => ?_
    refine mv s rfl rfl fun a s => ?_
    refine qq s rfl (yl_b (y_neq s rfl rfl) hs63e) fun a s => ?_
    refine mv s rfl rfl fun a s => ?_
    refine gm s rfl rfl fun a s => ?_
    refine gy s rfl (yl_b (y_eql s rfl rfl) hs64e) fun a s => ?_
    refine gm s rfl rfl fun a s => ?_
    refine gm s rfl rfl fun a s => ?_
    refine gy s rfl (yl_b (y_neq s rfl rfl) hs65e) fun a s => ?_
    refine gm s rfl rfl fun a s => ?_
    refine gn s rfl fun a s => ?_
    refine gn s rfl fun a s => ?_
    refine gn s rfl fun a s => ?_
    refine gn s rfl fun a s => ?_
    refine gy s rfl (y_pick_t s rfl rfl) fun a s => ?_
    refine gy s rfl (y_pick_t s rfl rfl) fun a s => ?_
    refine qq s rfl (y_pick_f s rfl rfl) fun a s => ?_
    apply wN
    exact ⟨(true), hg, (s.sb rfl rfl rfl)⟩
   have hs65e := decide_eq_false hs65
   replace hg := br_f hg hs65
   obtain ⟨r66, hr66, hg⟩ := bind_some hg
   apply wL
   refine mv s rfl rfl fun a s => ?_
   refine mv s rfl rfl fun a s => ?_
   refine qq s rfl (yl_b (y_neq s rfl rfl) hs63e) fun a s => ?_
   refine mv s rfl rfl fun a s => ?_
   refine gm s rfl rfl fun a s => ?_
   refine gy s rfl (yl_b (y_eql s rfl rfl) hs64e) fun a s => ?_
   refine gm s rfl rfl fun a s => ?_
   refine gm s rfl rfl fun a s => ?_
   refine gy s rfl (yl_b (y_neq s rfl rfl) hs65e) fun a s => ?_
   refine gm s rfl rfl fun a s => ?_
   refine gy s rfl (y_loadAll (kk := 1707) s rfl rfl underlying24 rfl rfl) fun a s => ?_
   refine gy s rfl (y_loadAll (kk := 1809) s rfl rfl underlying24 rfl rfl) fun a s => ?_
   refine gl s rfl (l_call (cap := []) s rfl func25 rfl (by kernel_rfl) rfl rfl (c_r37_Same n _ _ s.lt r46.1 (Au51a1) (cu51a1) (s.ft 106 rfl) r54.1 (Au59a1) (cu59a1) (s.ft 108 rfl) r66 hr66) fun v69 a w hK hp s => ?_)
   obtain rfl := hp
   refine gy s rfl (y_not s rfl) fun a s => ?_
   refine gy s rfl (y_pick_f s rfl rfl) fun a s => ?_
   refine gy s rfl (y_pick_t s rfl rfl) fun a s => ?_
   refine qq s rfl (y_pick_f s rfl rfl) fun a s => ?_
   apply wN
   exact ⟨(!(r66)), hg, (s.sb rfl rfl rfl)⟩
  have hs64e := decide_eq_false hs64
  replace hg := br_f hg hs64
  apply wL
  refine mv s rfl rfl fun a s => ?_
  refine mv s rfl rfl fun a s => ?_
  refine qq s rfl (yl_b (y_neq s rfl rfl) hs63e) fun a s => ?_
  refine mv s rfl rfl fun a s => ?_
  refine gm s rfl rfl fun a s => ?_
  refine gy s rfl (yl_b (y_eql s rfl rfl) hs64e) fun a s => ?_
  refine gm s rfl rfl fun a s => ?_
  refine gn s rfl fun a s => ?_
  refine gn s rfl fun a s => ?_
  refine gn s rfl fun a s => ?_
  refine gn s rfl fun a s => ?_
  refine gn s rfl fun a s => ?_
  refine gn s rfl fun a s => ?_
  refine gn s rfl fun a s => ?_
  refine gn s rfl fun a s => ?_
  refine gy s rfl (y_pick_f s rfl rfl) fun a s => ?_
  refine qq s rfl (y_pick_f s rfl rfl) fun a s => ?_
  apply wN
  exact ⟨(false), hg, (s.sb rfl rfl rfl)⟩
 clear s a; rintro a w ⟨t_62, hg, s⟩
 subst hk61
 refine c_cond s rfl (fun hc71 => ?_) (fun hc71 => ?_)
 ·replace hg := br_t hg hc71
  apply wR
  refine asg s rfl rfl fun a s => ?_
  apply wN
  apply wp_ret
  refine p_thenR ?_
  obtain rfl := Option.some.inj hg
  refine fin1 (fn := Tryd.f9) s rfl (r_tmp s rfl) ?_
  exact rfl
 replace hg := br_n hg hc71
 apply wp_skip
 apply pN
 apply wQ
 apply wR
 refine mv s rfl rfl fun a s => ?_
 refine qq s rfl (y_neq s rfl rfl) fun a s => ?_
 apply wN
 refine c_dec s rfl (fun hc72 => ?_) (fun hc72 => ?_)
 ·replace hg := br_t hg hc72
  apply wQ
  obtain ⟨r73, hr73, hg⟩ := bind_some hg
  apply wL
  refine l_seq rfl (l_call (cap := []) s rfl func10 rfl (by kernel_rfl) rfl rfl (c_law37_exampleHolds n _ _ s.lt  r73 hr73) fun v76 a w hK hp s => ?_)
  obtain rfl := hp
  refine asg s rfl rfl fun a s => ?_
  apply wN
  apply wp_ret
  refine p_thenR ?_
  obtain rfl := Option.some.inj hg
  refine fin1 (fn := Tryd.f9) s rfl (r_tmp s rfl) ?_
  exact rfl
 replace hg := br_f hg hc72
 apply wp_skip
 apply pN
 apply wQ
 apply wR
 refine mv s rfl rfl fun a s => ?_
 refine qq s rfl (y_lenSlice s rfl underlying40) fun a s => ?_
 refine mv s rfl rfl fun a s => ?_
 apply wN
 obtain ⟨k78, hg, hk78⟩ := jn_some hg
 refine c_post (fun a w => k78 = some r ∧ St (⟨Tryd.f9.ntmps, M, noB, w0⟩ : Ctx) [(1, sl Ap11 (t_') cp11), (13, vP b60 0)] [(1809, Ob.box b60 [sl Au59a1 (r54.1.Weights) cu59a1] 24)] [(102, slF RJudged (Ap11) ((t_').length) (cp11) (t_')), (108, slF RWeight (Au59a1) ((r54.1.Weights).length) (cu59a1) (r54.1.Weights))] a w) ?_ ?_
 ·apply wp_block
  refine c_loop (σ := Nat) (fun m1 a w => ∃ (t_79 : Nat), law37_ModelStops_L0 n t_' r54 k78 m1 t_79 = some r ∧ St (⟨Tryd.f9.ntmps, M, noB, w0⟩ : Ctx) [(1, sl Ap11 (t_') cp11), (13, vP b60 0), (90, vI ((((t_').length : Nat) : Int))), (91, vI (((t_79 : Nat) : Int)))] [(1809, Ob.box b60 [sl Au59a1 (r54.1.Weights) cu59a1] 24)] [(102, slF RJudged (Ap11) ((t_').length) (cp11) (t_')), (108, slF RWeight (Au59a1) ((r54.1.Weights).length) (cu59a1) (r54.1.Weights))] a w) (fun m1 => m1) n ⟨(0), hg, (s.sb rfl rfl rfl)⟩ ?_
  clear s a; rintro m1 a w ⟨t_79, hg, s⟩
  rcases m1 with _ | m1
  ·rw [law37_ModelStops_L0] at hg; cases hg
  rw [law37_ModelStops_L0] at hg
  apply wR
  refine qq s rfl (y_lssN (i := t_79) (j := ((t_').length)) s rfl rfl) fun a s => ?_
  apply wN
  apply wQ
  refine c_dec s rfl (fun hc80 => ?_) (fun hc80 => ?_)
  ·replace hg := br_t hg hc80
   have hmx81 := SlR.mx (s.ft 102 rfl)
   apply wp_skip
   apply pN
   apply wQ
   apply wp_block
   apply wR
   refine mv s rfl rfl fun a s => ?_
   refine asg s rfl rfl fun a s => ?_
   apply wN
   apply wQ
   obtain ⟨x83, hx83, hg⟩ := bind_some hg
   obtain ⟨r85, hr85, hg⟩ := bind_some hg
   refine d_plan s [] [(0, some 1809), (1, some 0), (2, some 0), (3, some 0), (4, some 0), (5, some 0), (6, none), (7, none)] rfl (by kernel_rfl) (by kernel_rfl) rfl ?_; clear s; intro wr hZ s; have hR := s.wd
   refine qt s hR rfl (y_loadAll (kk := 1809) s rfl rfl underlying24 rfl rfl) fun a s => ?_
   refine qt s hR rfl (y_move s rfl) fun a s => ?_
   refine qt s hR rfl (y_move s rfl) fun a s => ?_
   obtain ⟨p88, hep88, hpp88⟩ := SlR.elemX (s.ft 102 rfl) hx83
   refine qt s hR rfl (y_elem (sz := 2) (i := t_79) s rfl rfl underlying40 rfl hep88 rfl (lt_of_get hx83)) fun a s => ?_
   refine qt s hR rfl (y_ptrField (o' := 0) s rfl underlying43 rfl rfl rfl) fun a s => ?_
   obtain ⟨hlq89, hmq89, csq89, hdq89, hcq89⟩ := hpp88
   obtain ⟨Aq891, cq891, rfl, hq891⟩ := RJudged.open hdq89
   replace s := s.ns 110 hq891
   refine qt s hR rfl (y_ldp1 s rfl hlq89 hmq89 (hcq89 0 _ rfl) underlying29 rfl) fun a s => ?_
   refine l_take s rfl rfl (l_call (cap := []) s rfl func19 rfl (by kernel_rfl) rfl rfl (c_model_Best n _ _ s.lt r54.1 (Au59a1) (cu59a1) (s.ft 108 rfl) x83.Readings (Aq891) (cq891) (s.ft 110 rfl) r85 hr85) fun v90 a w hK hp s => ?_)
   replace hZ := Nat.le_trans hZ hK.size; refine ⟨fun g _ h => h.grow hK, ?_⟩; clear hK
   obtain rfl := hp
   refine l_take s rfl rfl (l_quiet s rfl rfl (y_assign s rfl) fun a s => ?_); refine ⟨fun g _ h => h, ?_⟩
   clear hR hZ
   apply pN
   apply wQ
   obtain ⟨k92, hg, hk92⟩ := jn_some hg
   refine c_post (fun a w => ∃ (t_93 : Bool), k92 t_93 = some r ∧ St (⟨Tryd.f9.ntmps, M, noB, w0⟩ : Ctx) [(1, sl Ap11 (t_') cp11), (13, vP b60 0), (90, vI ((((t_').length : Nat) : Int))), (91, vI (((t_79 : Nat) : Int))), (126, .bool (t_93))] [(1809, Ob.box b60 [sl Au59a1 (r54.1.Weights) cu59a1] 24)] [(102, slF RJudged (Ap11) ((t_').length) (cp11) (t_')), (108, slF RWeight (Au59a1) ((r54.1.Weights).length) (cu59a1) (r54.1.Weights))] a w) ?_ ?_
   ·rcases Decidable.em (r85 < 0) with hs94 | hs94
    ·have hs94e := decide_eq_true hs94
     replace hg := br_t hg hs94
     refine d_plan s [] [(0, some 0), (1, some 0), (2, some 0), (3, some 0), (4, some 0), (5, some 0), (6, some 0), (7, some 0), (8, some 0), (9, some 0), (10, some 0), (11, some 0), (12, some 0), (13, some 0), (14, some 0), (15, some 0), (16, some 0), (17, some 0), (18, some 0), (19, some 0), (20, some 0), (21, some 0), (22, some 0), (23, some 0), (24, some 0), (25, some 0)] rfl (by kernel_rfl) (by kernel_rfl) rfl ?_; clear s; intro wr hZ s; have hR := s.wd
     refine qt s hR rfl (y_move s rfl) fun a s => ?_
     refine qt s hR rfl (yl_b (y_lss s rfl rfl) hs94e) fun a s => ?_
     refine qt s hR rfl (y_move s rfl) fun a s => ?_
     refine q_pass s hR rfl rfl ⟨_, _, _, rfl, rfl, rfl, rfl⟩ rfl fun a s => ?_
     refine q_pass s hR rfl rfl ⟨_, _, _, rfl, rfl, rfl, rfl⟩ rfl fun a s => ?_
     refine q_pass s hR rfl rfl ⟨_, _, _, rfl, rfl, rfl, rfl⟩ rfl fun a s => ?_
     refine q_pass s hR rfl rfl ⟨_, _, _, rfl, rfl, rfl, rfl⟩ rfl fun a s => ?_
     refine q_pass s hR rfl rfl ⟨_, _, _, rfl, rfl, rfl, rfl⟩ rfl fun a s => ?_
     refine q_pass s hR rfl rfl ⟨_, _, _, rfl, rfl, rfl, rfl⟩ rfl fun a s => ?_
     refine q_pass s hR rfl rfl ⟨_, _, _, rfl, rfl, rfl, rfl⟩ rfl fun a s => ?_
     refine q_pass s hR rfl rfl ⟨_, _, _, rfl, rfl, rfl, rfl⟩ rfl fun a s => ?_
     refine q_pass s hR rfl rfl ⟨_, _, _, rfl, rfl, rfl, rfl⟩ rfl fun a s => ?_
     refine q_pass s hR rfl rfl ⟨_, _, _, rfl, rfl, rfl, rfl⟩ rfl fun a s => ?_
     refine q_pass s hR rfl rfl ⟨_, _, _, rfl, rfl, rfl, rfl⟩ rfl fun a s => ?_
     refine q_pass s hR rfl rfl ⟨_, _, _, rfl, rfl, rfl, rfl⟩ rfl fun a s => ?_
     refine q_pass s hR rfl rfl ⟨_, _, _, rfl, rfl, rfl, rfl⟩ rfl fun a s => ?_
     refine q_pass s hR rfl rfl ⟨_, _, _, rfl, rfl, rfl, rfl⟩ rfl fun a s => ?_
     refine q_pass s hR rfl rfl ⟨_, _, _, rfl, rfl, rfl, rfl⟩ rfl fun a s => ?_
     refine q_pass s hR rfl rfl ⟨_, _, _, rfl, rfl, rfl, rfl⟩ rfl fun a s => ?_
     refine q_pass s hR rfl rfl ⟨_, _, _, rfl, rfl, rfl, rfl⟩ rfl fun a s => ?_
     refine q_pass s hR rfl rfl ⟨_, _, _, rfl, rfl, rfl, rfl⟩ rfl fun a s => ?_
     refine q_pass s hR rfl rfl ⟨_, _, _, rfl, rfl, rfl, rfl⟩ rfl fun a s => ?_
     refine q_pass s hR rfl rfl ⟨_, _, _, rfl, rfl, rfl, rfl⟩ rfl fun a s => ?_
     refine q_pass s hR rfl rfl ⟨_, _, _, rfl, rfl, rfl, rfl⟩ rfl fun a s => ?_
     refine q_pass s hR rfl rfl ⟨_, _, _, rfl, rfl, rfl, rfl⟩ rfl fun a s => ?_
     refine qt s hR rfl (y_pick_t s rfl rfl) fun a s => ?_
     clear hR hZ
     apply pN
     exact ⟨(true), hg, (s.sb rfl rfl rfl)⟩
    have hs94e := decide_eq_false hs94
    replace hg := br_f hg hs94
    obtain ⟨x98, hx98, hg⟩ := bind_some hg
    obtain ⟨x105, hx105, hg⟩ := bind_some hg
    obtain ⟨r107, hr107, hg⟩ := bind_some hg
    refine d_plan s [] [(0, some 0), (1, some 0), (2, some 0), (3, some 0), (4, some 0), (5, some 0), (6, some 0), (7, some 0), (8, some 0), (9, some 0), (10, some 0), (11, some 0), (12, some 0), (13, some 0), (14, some 0), (15, some 0), (16, some 0), (17, some 0), (18, some 0), (19, some 0), (20, some 0), (21, some 0), (22, some 0), (23, none), (24, none), (25, none)] rfl (by kernel_rfl) (by kernel_rfl) rfl ?_; clear s; intro wr hZ s; have hR := s.wd
    refine qt s hR rfl (y_move s rfl) fun a s => ?_
    refine qt s hR rfl (yl_b (y_lss s rfl rfl) hs94e) fun a s => ?_
    refine qt s hR rfl (y_move s rfl) fun a s => ?_
    refine qg s hR rfl (y_move s rfl) fun a s => ?_
    refine qg s hR rfl (y_move s rfl) fun a s => ?_
    obtain ⟨p110, hep110, hpp110⟩ := SlR.elemX (s.ft 102 rfl) hx83
    refine qg s hR rfl (y_elem (sz := 2) (i := t_79) s rfl rfl underlying40 rfl hep110 rfl (lt_of_get hx83)) fun a s => ?_
    refine qg s hR rfl (y_ptrField (o' := 0) s rfl underlying43 rfl rfl rfl) fun a s => ?_
    obtain ⟨hlq111, hmq111, csq111, hdq111, hcq111⟩ := hpp110
    obtain ⟨Aq1111, cq1111, rfl, hq1111⟩ := RJudged.open hdq111
    replace s := s.ns 116 hq1111
    refine qg s hR rfl (y_ldp1 s rfl hlq111 hmq111 (hcq111 0 _ rfl) underlying29 rfl) fun a s => ?_
    refine qg s hR rfl (y_move s rfl) fun a s => ?_
    obtain ⟨p112, hep112, hpp112⟩ := SlR.elemX (s.ft 116 rfl) (ix_some hx98).1
    refine qg s hR rfl (y_elem (sz := 5) (i := ((r85).toNat)) s rfl rfl underlying29 rfl hep112 (ix_some hx98).2.1 (lt_of_get (ix_some hx98).1)) fun a s => ?_
    obtain ⟨hlq113, hmq113, csq113, hdq113, hcq113⟩ := hpp112
    obtain ⟨Aq1135, cq1135, rfl, lq1132, hq1135⟩ := RDeriv.open hdq113
    replace s := s.ns 117 hq1135
    refine qg s hR rfl (y_ldp s rfl hlq113 hmq113 (by simpa using hcq113) underlying31 rfl rfl) fun a s => ?_
    refine qg s hR rfl (y_move s rfl) fun a s => ?_
    refine qg s hR rfl (y_move s rfl) fun a s => ?_
    obtain ⟨p114, hep114, hpp114⟩ := SlR.elemX (s.ft 102 rfl) hx83
    refine qg s hR rfl (y_elem (sz := 2) (i := t_79) s rfl rfl underlying40 rfl hep114 rfl (lt_of_get hx83)) fun a s => ?_
    refine qg s hR rfl (y_ptrField (o' := 0) s rfl underlying43 rfl rfl rfl) fun a s => ?_
    obtain ⟨hlq115, hmq115, csq115, hdq115, hcq115⟩ := hpp114
    obtain ⟨Aq1151, cq1151, rfl, hq1151⟩ := RJudged.open hdq115
    replace s := s.ns 118 hq1151
    refine qg s hR rfl (y_ldp1 s rfl hlq115 hmq115 (hcq115 0 _ rfl) underlying29 rfl) fun a s => ?_
    refine qg s hR rfl (y_move s rfl) fun a s => ?_
    refine qg s hR rfl (y_move s rfl) fun a s => ?_
    obtain ⟨p116, hep116, hpp116⟩ := SlR.elemX (s.ft 102 rfl) hx83
    refine qg s hR rfl (y_elem (sz := 2) (i := t_79) s rfl rfl underlying40 rfl hep116 rfl (lt_of_get hx83)) fun a s => ?_
    refine qg s hR rfl (y_ptrField (o' := 1) s rfl underlying43 rfl rfl rfl) fun a s => ?_
    obtain ⟨hlq117, hmq117, csq117, hdq117, hcq117⟩ := hpp116
    obtain ⟨Aq1171, cq1171, rfl, hq1171⟩ := RJudged.open hdq117
    replace s := s.ns 119 hq1171
    refine qg s hR rfl (y_ldp1 s rfl hlq117 hmq117 (hcq117 1 _ rfl) underlying3 rfl) fun a s => ?_
    obtain ⟨p118, hep118, hpp118⟩ := SlR.elemX (s.ft 118 rfl) (ix_some hx105).1
    refine qg s hR rfl (y_elem (sz := 5) (i := ((x83.Gold).toNat)) s rfl rfl underlying29 rfl hep118 (ix_some hx105).2.1 (lt_of_get (ix_some hx105).1)) fun a s => ?_
    obtain ⟨hlq119, hmq119, csq119, hdq119, hcq119⟩ := hpp118
    obtain ⟨Aq1195, cq1195, rfl, lq1192, hq1195⟩ := RDeriv.open hdq119
    replace s := s.ns 120 hq1195
    refine qg s hR rfl (y_ldp s rfl hlq119 hmq119 (by simpa using hcq119) underlying31 rfl rfl) fun a s => ?_
    refine l_take s rfl ⟨_, _, _, rfl, rfl, rfl, rfl⟩ (l_call (cap := []) s rfl func24 rfl (by kernel_rfl) rfl rfl (c_r28_Compare n _ _ s.lt x98 (Aq1135) (cq1135) (by omega) (s.ft 117 rfl) x105 (Aq1195) (cq1195) (by omega) (s.ft 120 rfl) r107 hr107) fun v120 a w hK hp s => ?_)
    replace hZ := Nat.le_trans hZ hK.size; refine ⟨fun g _ h => h.grow hK, ?_⟩; clear hK
    obtain rfl := hp
    refine l_take s rfl ⟨_, _, _, rfl, rfl, rfl, rfl⟩ (l_quiet s rfl rfl (y_neq s rfl rfl) fun a s => ?_); refine ⟨fun g _ h => h, ?_⟩
    refine l_take s rfl rfl (l_quiet s rfl rfl (y_pick_f s rfl rfl) fun a s => ?_); refine ⟨fun g _ h => h, ?_⟩
    clear hR hZ
    apply pN
    exact ⟨(decide (r107 ≠ 0)), hg, (s.sb rfl rfl rfl)⟩
   clear s a; rintro a w ⟨t_93, hg, s⟩
   subst hk92
   refine c_cond s rfl (fun hc122 => ?_) (fun hc122 => ?_)
   ·replace hg := br_t hg hc122
    apply wQ
    obtain ⟨r123, hr123, hg⟩ := bind_some hg
    apply wL
    refine l_seq rfl (l_call (cap := []) s rfl func10 rfl (by kernel_rfl) rfl rfl (c_law37_exampleHolds n _ _ s.lt  r123 hr123) fun v126 a w hK hp s => ?_)
    obtain rfl := hp
    refine asg s rfl rfl fun a s => ?_
    apply wN
    apply wp_ret
    refine p_inR ?_
    refine p_thenR ?_
    refine p_thenR ?_
    refine p_inR ?_
    refine p_thenR ?_
    obtain rfl := Option.some.inj hg
    refine fin1 (fn := Tryd.f9) s rfl (r_tmp s rfl) ?_
    exact rfl
   replace hg := br_n hg hc122
   apply wp_skip
   refine p_inN ?_
   apply pN
   apply wL
   refine qq s rfl (y_addN (i := t_79) (j := 1) s rfl rfl (in64.2 (by omega))) fun a s => ?_
   refine mv s rfl rfl fun a s => ?_
   apply wN
   exact ⟨m1, Nat.lt_succ_self _, ⟨(t_79 + 1), hg, (s.sb rfl rfl rfl)⟩⟩
  replace hg := br_f hg hc80
  apply wp_exit
  refine p_then ?_
  refine p_then ?_
  refine p_in ?_
  apply pN
  exact ⟨hg, (s.sb rfl rfl rfl)⟩
 clear s a; rintro a w ⟨hg, s⟩
 subst hk78
 apply wQ
 apply wQ
 obtain ⟨r128, hr128, hg⟩ := bind_some hg
 apply wL
 refine qq s rfl (y_loadAll (kk := 1809) s rfl rfl underlying24 rfl rfl) fun a s => ?_
 refine l_seq rfl (l_call (cap := []) s rfl func12 rfl (by kernel_rfl) rfl rfl (c_r37_Check n _ _ s.lt r54.1 (Au59a1) (cu59a1) (s.ft 108 rfl) r128 hr128) fun v131 a w hK hp s => ?_)
 obtain rfl := hp
 refine qq s rfl (y_neq s rfl rfl) fun a s => ?_
 apply wN
 refine c_dec s rfl (fun hc133 => ?_) (fun hc133 => ?_)
 ·replace hg := br_t hg hc133
  apply wQ
  obtain ⟨r134, hr134, hg⟩ := bind_some hg
  apply wL
  refine l_seq rfl (l_call (cap := []) s rfl func10 rfl (by kernel_rfl) rfl rfl (c_law37_exampleHolds n _ _ s.lt  r134 hr134) fun v137 a w hK hp s => ?_)
  obtain rfl := hp
  refine asg s rfl rfl fun a s => ?_
  apply wN
  apply wp_ret
  refine p_thenR ?_
  obtain rfl := Option.some.inj hg
  refine fin1 (fn := Tryd.f9) s rfl (r_tmp s rfl) ?_
  exact rfl
 replace hg := br_f hg hc133
 apply wp_skip
 apply pN
 apply wQ
 obtain ⟨r139, hr139, hg⟩ := bind_some hg
 apply wL
 refine qq s rfl (y_loadAll (kk := 1809) s rfl rfl underlying24 rfl rfl) fun a s => ?_
 refine mv s rfl rfl fun a s => ?_
 refine l_seq rfl (l_call (cap := []) s rfl func23 rfl (by kernel_rfl) rfl rfl (c_model_Train n _ _ s.lt r54.1 (Au59a1) (cu59a1) (s.ft 108 rfl) t_' (Ap11) (cp11) (s.ft 102 rfl) 2 r139 hr139) fun v143 a w hK hp s => ?_)
 obtain ⟨Au144a1, cu144a1, rfl, hu144a1⟩ := hp
 replace s := s.ns 122 hu144a1
 refine mv s rfl rfl fun a s => ?_
 refine qq s rfl (y_extract s rfl rfl) fun a s => ?_
 refine qq s rfl (y_extract s rfl rfl) fun a s => ?_
 refine l_seq rfl (l_alloc (zs := [.slice (none) (0) (0)]) s 3206 rfl rfl rfl rfl fun b145 a w hb hK s => ?_)
 refine l_seq rfl (l_store (n := 1) (cs' := [sl Au144a1 (r139.1.Weights) cu144a1]) s 3206 rfl rfl rfl rfl rfl rfl rfl rfl ?_); clear s; intro w hK s; clear hK
 refine asg s rfl rfl fun a s => ?_
 apply wN
 apply wQ
 rcases Decidable.em (r139.2 = 0) with hs146 | hs146
 ·have hs146e := decide_eq_true hs146
  replace hg := br_t hg hs146
  obtain ⟨r147, hr147, hg⟩ := bind_some hg
  rcases Bool.eq_false_or_eq_true (r147) with hs150 | hs150
  ·replace hg := br_t hg hs150
   obtain ⟨r151, hr151, hg⟩ := bind_some hg
   apply wL
   refine mv s rfl rfl fun a s => ?_
   refine qq s rfl (yl_b (y_eql s rfl rfl) hs146e) fun a s => ?_
   refine mv s rfl rfl fun a s => ?_
   refine gy s rfl (y_loadAll (kk := 3206) s rfl rfl underlying24 rfl rfl) fun a s => ?_
   refine gy s rfl (y_loadAll (kk := 1809) s rfl rfl underlying24 rfl rfl) fun a s => ?_
   refine gl s rfl (l_call (cap := []) s rfl func25 rfl (by kernel_rfl) rfl rfl (c_r37_Same n _ _ s.lt r139.1 (Au144a1) (cu144a1) (s.ft 122 rfl) r54.1 (Au59a1) (cu59a1) (s.ft 108 rfl) r147 hr147) fun v154 a w hK hp s => ?_)
   obtain rfl := hp.trans (congrArg Value.bool hs150)
   refine qq s rfl (y_pick_t s rfl rfl) fun a s => ?_
   refine mv s rfl rfl fun a s => ?_
   refine gl s rfl (l_call (cap := []) s rfl func10 rfl (by kernel_rfl) rfl rfl (c_law37_exampleHolds n _ _ s.lt  r151 hr151) fun v156 a w hK hp s => ?_)
   obtain rfl := hp
   refine qq s rfl (y_pick_t s rfl rfl) fun a s => ?_
   refine asg s rfl rfl fun a s => ?_
   apply wN
   apply wp_ret
   obtain rfl := Option.some.inj hg
   refine fin1 (fn := Tryd.f9) s rfl (r_tmp s rfl) ?_
   exact rfl
  replace hg := br_n hg hs150
  apply wL
  refine mv s rfl rfl fun a s => ?_
  refine qq s rfl (yl_b (y_eql s rfl rfl) hs146e) fun a s => ?_
  refine mv s rfl rfl fun a s => ?_
  refine gy s rfl (y_loadAll (kk := 3206) s rfl rfl underlying24 rfl rfl) fun a s => ?_
  refine gy s rfl (y_loadAll (kk := 1809) s rfl rfl underlying24 rfl rfl) fun a s => ?_
  refine gl s rfl (l_call (cap := []) s rfl func25 rfl (by kernel_rfl) rfl rfl (c_r37_Same n _ _ s.lt r139.1 (Au144a1) (cu144a1) (s.ft 122 rfl) r54.1 (Au59a1) (cu59a1) (s.ft 108 rfl) r147 hr147) fun v158 a w hK hp s => ?_)
  obtain rfl := hp.trans (congrArg Value.bool hs150)
  refine qq s rfl (y_pick_t s rfl rfl) fun a s => ?_
  refine mv s rfl rfl fun a s => ?_
  refine gn s rfl fun a s => ?_
  refine qq s rfl (y_pick_f s rfl rfl) fun a s => ?_
  refine asg s rfl rfl fun a s => ?_
  apply wN
  apply wp_ret
  obtain rfl := Option.some.inj hg
  refine fin1 (fn := Tryd.f9) s rfl (r_tmp s rfl) ?_
  exact rfl
 have hs146e := decide_eq_false hs146
 replace hg := br_f hg hs146
 apply wL
 refine mv s rfl rfl fun a s => ?_
 refine qq s rfl (yl_b (y_eql s rfl rfl) hs146e) fun a s => ?_
 refine mv s rfl rfl fun a s => ?_
 refine gn s rfl fun a s => ?_
 refine gn s rfl fun a s => ?_
 refine gn s rfl fun a s => ?_
 refine qq s rfl (y_pick_f s rfl rfl) fun a s => ?_
 refine mv s rfl rfl fun a s => ?_
 refine gn s rfl fun a s => ?_
 refine qq s rfl (y_pick_f s rfl rfl) fun a s => ?_
 refine asg s rfl rfl fun a s => ?_
 apply wN
 apply wp_ret
 obtain rfl := Option.some.inj hg
 refine fin1 (fn := Tryd.f9) s rfl (r_tmp s rfl) ?_
 exact rfl
end Go.Proofs.YthgdajiipojnoaaDoor
