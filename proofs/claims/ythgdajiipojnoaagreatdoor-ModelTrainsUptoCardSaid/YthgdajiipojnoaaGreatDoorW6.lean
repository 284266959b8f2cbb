/- Chapter 37: the walks, part 6 -/
import Derived.Test.YthgdajiipojnoaaGreatDoorW5
namespace Go.Proofs.YthgdajiipojnoaaGreatDoor
open Go.Gl Go.RowKit Tryz
set_option linter.unusedVariables false
set_option linter.unusedSimpArgs false
set_option maxRecDepth 4000

set_option maxHeartbeats 400000 in
theorem c_model_feature (n : Nat) (M : Bs) (w0 : World) (hM : ∀ b, M b → b < w0.heap.size) (s_ : (List UInt8)) (lp01 : (s_).length ≤ 9223372036854775807) (r : Bool) (hg : model_feature n s_ = some r) :
    Calls Tryz.prog 25 [.string (bs (s_))].toArray w0 (Ret noB w0 fun v w => v = .bool (r)) := by
 unfold model_feature at hg
 refine enter M noB func25 rfl rfl hM ?_
 intro a s
 apply wR
 refine asg s rfl rfl fun a s => ?_
 apply wN
 apply wQ
 obtain ⟨r1, hr1, hg⟩ := bind_some hg
 apply wL
 refine mv s rfl rfl fun a s => ?_
 refine l_seq rfl (l_call (cap := []) s rfl func44 rfl (by kernel_rfl) rfl rfl (c_strings_Cut n _ _ s.lt s_ (by omega) [62] (by first | omega | (rw [List.length_append]; omega) | (simp only [List.length_append]; omega) | (simp only [List.length_append, List.length_take, List.length_drop, List.length_cons, List.length_nil]; omega) | exact smin_len (by omega) (by omega)) r1 hr1) fun v4 a w hK hp s => ?_)
 obtain ⟨rfl, lu5a1, lu5b1⟩ := hp
 refine mv s rfl rfl fun a s => ?_
 refine qq s rfl (y_extract s rfl rfl) fun a s => ?_
 refine qq s rfl (y_extract s rfl rfl) fun a s => ?_
 refine qq s rfl (y_extract s rfl rfl) fun a s => ?_
 refine asg s rfl rfl fun a s => ?_
 refine asg s rfl rfl fun a s => ?_
 refine asg s rfl rfl fun a s => ?_
 apply wN
 apply wQ
 apply wR
 refine mv s rfl rfl fun a s => ?_
 refine qq s rfl (y_not s rfl) fun a s => ?_
 apply wN
 refine c_cond s rfl (fun hc6 => ?_) (fun hc6 => ?_)
 ·replace hg := br_t hg hc6
  apply wQ
  obtain ⟨r7, hr7, hg⟩ := bind_some hg
  apply wL
  refine mv s rfl rfl fun a s => ?_
  refine l_seq rfl (l_call (cap := []) s rfl func45 rfl (by kernel_rfl) rfl rfl (c_text_Name n _ _ s.lt s_ (by omega) r7 hr7) fun v10 a w hK hp s => ?_)
  obtain rfl := hp
  refine asg s rfl rfl fun a s => ?_
  apply wN
  apply wp_ret
  refine p_thenR ?_
  obtain rfl := Option.some.inj hg
  refine fin1 (fn := Tryz.f25) s rfl (r_tmp s rfl) ?_
  exact rfl
 replace hg := br_n hg hc6
 apply wp_skip
 apply pN
 apply wQ
 obtain ⟨r12, hr12, hg⟩ := bind_some hg
 apply wL
 refine mv s rfl rfl fun a s => ?_
 refine l_seq rfl (l_call (cap := []) s rfl func46 rfl (by kernel_rfl) rfl rfl (c_strings_Split n _ _ s.lt r1.2.1 (by omega) [32] (by first | omega | (rw [List.length_append]; omega) | (simp only [List.length_append]; omega) | (simp only [List.length_append, List.length_take, List.length_drop, List.length_cons, List.length_nil]; omega) | exact smin_len (by omega) (by omega)) r12 hr12) fun v15 a w hK hp s => ?_)
 obtain ⟨Au16a1, cu16a1, rfl, hu16a1⟩ := hp
 replace s := s.ns 102 hu16a1
 refine asg s rfl rfl fun a s => ?_
 apply wN
 apply wQ
 obtain ⟨r17, hr17, hg⟩ := bind_some hg
 rcases Bool.eq_false_or_eq_true (r17) with hs20 | hs20
 ·replace hg := br_t hg hs20
  rcases Decidable.em (((r12).length) ≤ 2) with hs21 | hs21
  ·have hs21e := decide_eq_true hs21
   replace hg := br_t hg hs21
   obtain ⟨r22, hr22, hg⟩ := bind_some hg
   apply wL
   refine mv s rfl rfl fun a s => ?_
   refine l_seq rfl (l_call (cap := []) s rfl func45 rfl (by kernel_rfl) rfl rfl (c_text_Name n _ _ s.lt r1.1 (by omega) r17 hr17) fun v25 a w hK hp s => ?_)
   obtain rfl := hp.trans (congrArg Value.bool hs20)
   refine mv s rfl rfl fun a s => ?_
   refine gm s rfl rfl fun a s => ?_
   refine gy s rfl (y_lenSlice s rfl underlying44) fun a s => ?_
   refine gy s rfl (yl_b (y_leqN (i := ((r12).length)) (j := 2) s rfl rfl) hs21e) fun a s => ?_
   refine qq s rfl (y_pick_t s rfl rfl) fun a s => ?_
   refine mv s rfl rfl fun a s => ?_
   refine gm s rfl rfl fun a s => ?_
   refine gl s rfl (l_call (cap := []) s rfl func47 rfl (by kernel_rfl) rfl rfl (c_slices_ContainsFunc_string n _ _ s.lt r12 (Au16a1) (cu16a1) (s.ft 102 rfl) (fun p => model_feature_1 n p) (48) ([]) ⟨⟨_, _, func48, rfl, by kernel_rfl⟩, fun M1 w1 hk hm hlt vs x r hp hr => by obtain ⟨rfl, la1⟩ := hp; exact c_model_feature_1 n M1 w1 hlt (x) la1 r hr⟩ r22 hr22) fun v27 a w hK hp s => ?_)
   obtain rfl := hp
   refine gy s rfl (y_not s rfl) fun a s => ?_
   refine qq s rfl (y_pick_t s rfl rfl) fun a s => ?_
   refine asg s rfl rfl fun a s => ?_
   apply wN
   apply wp_ret
   obtain rfl := Option.some.inj hg
   refine fin1 (fn := Tryz.f25) s rfl (r_tmp s rfl) ?_
   exact rfl
  have hs21e := decide_eq_false hs21
  replace hg := br_f hg hs21
  apply wL
  refine mv s rfl rfl fun a s => ?_
  refine l_seq rfl (l_call (cap := []) s rfl func45 rfl (by kernel_rfl) rfl rfl (c_text_Name n _ _ s.lt r1.1 (by omega) r17 hr17) fun v29 a w hK hp s => ?_)
  obtain rfl := hp.trans (congrArg Value.bool hs20)
  refine mv s rfl rfl fun a s => ?_
  refine gm s rfl rfl fun a s => ?_
  refine gy s rfl (y_lenSlice s rfl underlying44) fun a s => ?_
  refine gy s rfl (yl_b (y_leqN (i := ((r12).length)) (j := 2) s rfl rfl) hs21e) fun a s => ?_
  refine qq s rfl (y_pick_t s rfl rfl) fun a s => ?_
  refine mv s rfl rfl fun a s => ?_
  refine gn s rfl fun a s => ?_
  refine gn s rfl fun a s => ?_
  refine gn s rfl fun a s => ?_
  refine qq s rfl (y_pick_f s rfl rfl) fun a s => ?_
  refine asg s rfl rfl fun a s => ?_
  apply wN
  apply wp_ret
  obtain rfl := Option.some.inj hg
  refine fin1 (fn := Tryz.f25) s rfl (r_tmp s rfl) ?_
  exact rfl
 replace hg := br_n hg hs20
 apply wL
 refine mv s rfl rfl fun a s => ?_
 refine l_seq rfl (l_call (cap := []) s rfl func45 rfl (by kernel_rfl) rfl rfl (c_text_Name n _ _ s.lt r1.1 (by omega) r17 hr17) fun v31 a w hK hp s => ?_)
 obtain rfl := hp.trans (congrArg Value.bool hs20)
 refine mv s rfl rfl fun a s => ?_
 refine gn s rfl fun a s => ?_
 refine gn s rfl fun a s => ?_
 refine gn s rfl fun a s => ?_
 refine qq s rfl (y_pick_f s rfl rfl) fun a s => ?_
 refine mv s rfl rfl fun a s => ?_
 refine gn s rfl fun a s => ?_
 refine gn s rfl fun a s => ?_
 refine gn s rfl fun a s => ?_
 refine qq s rfl (y_pick_f s rfl rfl) fun a s => ?_
 refine asg s rfl rfl fun a s => ?_
 apply wN
 apply wp_ret
 obtain rfl := Option.some.inj hg
 refine fin1 (fn := Tryz.f25) s rfl (r_tmp s rfl) ?_
 exact rfl
set_option maxHeartbeats 400000 in
theorem c_model_Check (n : Nat) (M : Bs) (w0 : World) (hM : ∀ b, M b → b < w0.heap.size) (m_ : Model) (Ap01 : Option Addr) (cp01 : Nat) (hp01 : SlR RWeight M w0 Ap01 (m_.Weights).length cp01 (m_.Weights)) (r : Int) (hg : model_Check n m_ = some r) :
    Calls Tryz.prog 16 [.agg #[.slice (Ap01) ((m_.Weights).length) (cp01)]].toArray w0 (Ret noB w0 fun v w => v = .int .i64 (r)) := by
 unfold model_Check at hg
 refine enter M noB func16 rfl rfl hM ?_
 intro a s
 replace s := s.es 101 hp01
 apply wR
 refine l_seq rfl (l_box (zs := [sl Ap01 (m_.Weights) cp01]) s 1000 rfl rfl rfl rfl fun b2 a w hb hK s => ?_)
 refine asg s rfl rfl fun a s => ?_
 apply wN
 apply wQ
 apply wR
 refine qq s rfl (y_boxField (o' := 0) s rfl underlying24 rfl rfl rfl) fun a s => ?_
 refine qq s rfl (y_loadBox1 (kk := 1000) s rfl rfl rfl underlying22 rfl) fun a s => ?_
 refine qq s rfl (y_lenSlice s rfl underlying22) fun a s => ?_
 refine mv s rfl rfl fun a s => ?_
 apply wN
 apply wp_block
 refine c_loop (σ := Nat) (fun m1 a w => ∃ (t_3 : Nat), model_Check_L0 n m_ m1 t_3 = some r ∧ St (⟨Tryz.f16.ntmps, M, noB, w0⟩ : Ctx) [(1, vP b2 0), (6, sl Ap01 (m_.Weights) cp01), (7, vI ((((m_.Weights).length : Nat) : Int))), (8, vI (((t_3 : Nat) : Int)))] [(1000, Ob.box b2 [sl Ap01 (m_.Weights) cp01] 24)] [(101, slF RWeight (Ap01) ((m_.Weights).length) (cp01) (m_.Weights))] a w) (fun m1 => m1) n ⟨(0), hg, (s.sb rfl rfl rfl)⟩ ?_
 clear s a; rintro m1 a w ⟨t_3, hg, s⟩
 rcases m1 with _ | m1
 ·rw [model_Check_L0] at hg; cases hg
 rw [model_Check_L0] at hg
 apply wR
 refine qq s rfl (y_lssN (i := t_3) (j := ((m_.Weights).length)) s rfl rfl) fun a s => ?_
 apply wN
 apply wQ
 refine c_dec s rfl (fun hc4 => ?_) (fun hc4 => ?_)
 ·replace hg := br_t hg hc4
  have hmx5 := SlR.mx (s.ft 101 rfl)
  apply wp_skip
  apply pN
  apply wQ
  apply wp_block
  apply wQ
  obtain ⟨x7, hx7, hg⟩ := bind_some hg
  apply wL
  refine mv s rfl rfl fun a s => ?_
  obtain ⟨p10, hep10, hpp10⟩ := SlR.elemX (s.ft 101 rfl) hx7
  refine qq s rfl (y_elem (sz := 2) (i := t_3) s rfl rfl underlying22 rfl hep10 rfl (lt_of_get hx7)) fun a s => ?_
  obtain ⟨hlq11, hmq11, csq11, hdq11, hcq11⟩ := hpp10
  obtain ⟨rfl, lq111⟩ := RWeight.open hdq11
  refine qq s rfl (y_ldp s rfl hlq11 hmq11 (by simpa using hcq11) underlying39 rfl rfl) fun a s => ?_
  refine l_seq rfl (l_alloc (zs := [vT ([]), vI 0]) s 1303 rfl rfl rfl rfl fun b12 a w hb hK s => ?_)
  refine asg s rfl rfl fun a s => ?_
  refine l_seq rfl (l_store (n := 2) (cs' := [vT (x7.Feature), vI (x7.Value)]) s 1303 rfl rfl rfl rfl rfl rfl rfl rfl ?_); clear s; intro w hK s; clear hK
  apply wN
  apply wQ
  apply wQ
  obtain ⟨r13, hr13, hg⟩ := bind_some hg
  apply wL
  refine qq s rfl (y_boxField (o' := 0) s rfl underlying39 rfl rfl rfl) fun a s => ?_
  refine qq s rfl (y_loadBox1 (kk := 1303) s rfl rfl rfl underlying9 rfl) fun a s => ?_
  refine l_seq rfl (l_call (cap := []) s rfl func25 rfl (by kernel_rfl) rfl rfl (c_model_feature n _ _ s.lt x7.Feature (by omega) r13 hr13) fun v16 a w hK hp s => ?_)
  obtain rfl := hp
  refine qq s rfl (y_not s rfl) fun a s => ?_
  apply wN
  refine c_cond s rfl (fun hc18 => ?_) (fun hc18 => ?_)
  ·replace hg := br_t hg hc18
   apply wR
   refine asg s rfl rfl fun a s => ?_
   apply wN
   apply wp_ret
   refine p_thenR ?_
   refine p_inR ?_
   refine p_thenR ?_
   refine p_thenR ?_
   refine p_inR ?_
   refine p_thenR ?_
   obtain rfl := Option.some.inj hg
   refine fin1 (fn := Tryz.f16) s rfl (r_tmp s rfl) ?_
   exact rfl
  replace hg := br_n hg hc18
  apply wp_skip
  apply pN
  apply wQ
  apply wQ
  obtain ⟨k19, hg, hk19⟩ := jn_some hg
  refine c_post (fun a w => ∃ (t_20 : Bool), k19 t_20 = some r ∧ St (⟨Tryz.f16.ntmps, M, noB, w0⟩ : Ctx) [(1, vP b2 0), (3, vI (((t_3 : Nat) : Int))), (4, vP b12 0), (6, sl Ap01 (m_.Weights) cp01), (7, vI ((((m_.Weights).length : Nat) : Int))), (8, vI (((t_3 : Nat) : Int))), (29, .bool (t_20))] [(1000, Ob.box b2 [sl Ap01 (m_.Weights) cp01] 24), (1303, Ob.box b12 [vT (x7.Feature), vI (x7.Value)] 39)] [(101, slF RWeight (Ap01) ((m_.Weights).length) (cp01) (m_.Weights))] a w) ?_ ?_
  ·rcases Decidable.em (x7.Value = 0) with hs21 | hs21
   ·have hs21e := decide_eq_true hs21
    replace hg := br_t hg hs21
    apply wL
    refine qq s rfl (y_boxField (o' := 1) s rfl underlying39 rfl rfl rfl) fun a s => ?_
    refine qq s rfl (y_loadBox1 (kk := 1303) s rfl rfl rfl underlying3 rfl) fun a s => ?_
    refine qq s rfl (yl_b (y_eql s rfl rfl) hs21e) fun a s => ?_
    refine mv s rfl rfl fun a s => ?_
    refine gn s rfl fun a s => ?_
    refine gn s rfl fun a s => ?_
    refine gn s rfl fun a s => ?_
    refine qq s rfl (y_pick_t s rfl rfl) fun a s => ?_
    refine mv s rfl rfl fun a s => ?_
    refine gn s rfl fun a s => ?_
    refine gn s rfl fun a s => ?_
    refine gn s rfl fun a s => ?_
    refine qq s rfl (y_pick_t s rfl rfl) fun a s => ?_
    apply wN
    exact ⟨(true), hg, (s.sb rfl rfl rfl)⟩
   have hs21e := decide_eq_false hs21
   replace hg := br_f hg hs21
   rcases Decidable.em (x7.Value < (-1048576)) with hs22 | hs22
   ·have hs22e := decide_eq_true hs22
    replace hg := br_t hg hs22
    apply wL
    refine qq s rfl (y_boxField (o' := 1) s rfl underlying39 rfl rfl rfl) fun a s => ?_
    refine qq s rfl (y_loadBox1 (kk := 1303) s rfl rfl rfl underlying3 rfl) fun a s => ?_
    refine qq s rfl (yl_b (y_eql s rfl rfl) hs21e) fun a s => ?_
    refine mv s rfl rfl fun a s => ?_
    refine gy s rfl (y_boxField (o' := 1) s rfl underlying39 rfl rfl rfl) fun a s => ?_
    refine gy s rfl (y_loadBox1 (kk := 1303) s rfl rfl rfl underlying3 rfl) fun a s => ?_
    refine gy s rfl (yl_b (y_lss s rfl rfl) hs22e) fun a s => ?_
    refine qq s rfl (y_pick_f s rfl rfl) fun a s => ?_
    refine mv s rfl rfl fun a s => ?_
    refine gn s rfl fun a s => ?_
    refine gn s rfl fun a s => ?_
    refine gn s rfl fun a s => ?_
    refine qq s rfl (y_pick_t s rfl rfl) fun a s => ?_
    apply wN
    exact ⟨(true), hg, (s.sb rfl rfl rfl)⟩
   have hs22e := decide_eq_false hs22
   replace hg := br_f hg hs22
   apply wL
   refine qq s rfl (y_boxField (o' := 1) s rfl underlying39 rfl rfl rfl) fun a s => ?_
   refine qq s rfl (y_loadBox1 (kk := 1303) s rfl rfl rfl underlying3 rfl) fun a s => ?_
   refine qq s rfl (yl_b (y_eql s rfl rfl) hs21e) fun a s => ?_
   refine mv s rfl rfl fun a s => ?_
   refine gy s rfl (y_boxField (o' := 1) s rfl underlying39 rfl rfl rfl) fun a s => ?_
   refine gy s rfl (y_loadBox1 (kk := 1303) s rfl rfl rfl underlying3 rfl) fun a s => ?_
   refine gy s rfl (yl_b (y_lss s rfl rfl) hs22e) fun a s => ?_
   refine qq s rfl (y_pick_f s rfl rfl) fun a s => ?_
   refine mv s rfl rfl fun a s => ?_
   refine gy s rfl (y_boxField (o' := 1) s rfl underlying39 rfl rfl rfl) fun a s => ?_
   refine gy s rfl (y_loadBox1 (kk := 1303) s rfl rfl rfl underlying3 rfl) fun a s => ?_
   refine gy s rfl (y_gtr s rfl rfl) fun a s => ?_
   refine qq s rfl (y_pick_f s rfl rfl) fun a s => ?_
   apply wN
   exact ⟨(decide ((1048576 : Int) < x7.Value)), hg, (s.sb rfl rfl rfl)⟩
  clear s a; rintro a w ⟨t_20, hg, s⟩
  subst hk19
  refine c_cond s rfl (fun hc23 => ?_) (fun hc23 => ?_)
  ·replace hg := br_t hg hc23
   apply wR
   refine asg s rfl rfl fun a s => ?_
   apply wN
   apply wp_ret
   refine p_thenR ?_
   refine p_inR ?_
   refine p_thenR ?_
   refine p_thenR ?_
   refine p_inR ?_
   refine p_thenR ?_
   obtain rfl := Option.some.inj hg
   refine fin1 (fn := Tryz.f16) s rfl (r_tmp s rfl) ?_
   exact rfl
  replace hg := br_n hg hc23
  apply wp_skip
  apply pN
  apply wQ
  obtain ⟨k24, hg, hk24⟩ := jn_some hg
  refine c_post (fun a w => ∃ (t_25 : Bool), k24 t_25 = some r ∧ St (⟨Tryz.f16.ntmps, M, noB, w0⟩ : Ctx) [(1, vP b2 0), (6, sl Ap01 (m_.Weights) cp01), (7, vI ((((m_.Weights).length : Nat) : Int))), (8, vI (((t_3 : Nat) : Int))), (43, .bool (t_25))] [(1000, Ob.box b2 [sl Ap01 (m_.Weights) cp01] 24)] [(101, slF RWeight (Ap01) ((m_.Weights).length) (cp01) (m_.Weights))] a w) ?_ ?_
  ·rcases Decidable.em ((0 : Nat) < t_3) with hs26 | hs26
   ·have hs26e := decide_eq_true hs26
    replace hg := br_t hg hs26
    obtain ⟨x28, hx28, hg⟩ := bind_some hg
    refine d_plan s [] [(0, some 0), (1, some 0), (2, some 0), (3, some 0), (4, some 1000), (5, some 0), (6, some 0), (7, some 0), (8, some 0), (9, some 0), (10, some 0), (11, some 1303), (12, some 0), (13, some 0)] rfl (by kernel_rfl) (by kernel_rfl) rfl ?_; clear s; intro wr hZ s; have hR := s.wd
    refine qt s hR rfl (y_move s rfl) fun a s => ?_
    refine qt s hR rfl (yl_b (y_gtrN (i := t_3) (j := 0) s rfl rfl) hs26e) fun a s => ?_
    refine qt s hR rfl (y_move s rfl) fun a s => ?_
    refine qg s hR rfl (y_boxField (o' := 0) s rfl underlying24 rfl rfl rfl) fun a s => ?_
    refine qg s hR rfl (y_loadBox1 (kk := 1000) s rfl rfl rfl underlying22 rfl) fun a s => ?_
    refine qg s hR rfl (y_move s rfl) fun a s => ?_
    refine qg s hR rfl (y_sub s rfl rfl (in64.2 (by omega))) fun a s => ?_
    obtain ⟨p30, hep30, hpp30⟩ := SlR.elemX (s.ft 101 rfl) (ix_some hx28).1
    refine qg s hR rfl (y_elem (sz := 2) (i := ((((t_3 : Nat) : Int) - 1).toNat)) s rfl rfl underlying22 rfl hep30 (ix_some hx28).2.1 (lt_of_get (ix_some hx28).1)) fun a s => ?_
    refine qg s hR rfl (y_ptrField (o' := 0) s rfl underlying39 rfl rfl rfl) fun a s => ?_
    obtain ⟨hlq31, hmq31, csq31, hdq31, hcq31⟩ := hpp30
    obtain ⟨rfl, lq311⟩ := RWeight.open hdq31
    refine qg s hR rfl (y_ldp1 s rfl hlq31 hmq31 (hcq31 0 _ rfl) underlying9 rfl) fun a s => ?_
    refine qg s hR rfl (y_boxField (o' := 0) s rfl underlying39 rfl rfl rfl) fun a s => ?_
    refine qg s hR rfl (y_loadBox1 (kk := 1303) s rfl rfl rfl underlying9 rfl) fun a s => ?_
    refine qg s hR rfl (y_sgeq s rfl rfl) fun a s => ?_
    refine qt s hR rfl (y_pick_t s rfl rfl) fun a s => ?_
    clear hR hZ
    apply pN
    exact ⟨(!(Op.bytesLess x28.Feature x7.Feature)), hg, (s.sb rfl rfl rfl)⟩
   have hs26e := decide_eq_false hs26
   replace hg := br_f hg hs26
   refine d_plan s [] [(0, some 0), (1, some 0), (2, some 0), (3, some 0), (4, some 0), (5, some 0), (6, some 0), (7, some 0), (8, some 0), (9, some 0), (10, some 0), (11, some 0), (12, some 0), (13, some 0)] rfl (by kernel_rfl) (by kernel_rfl) rfl ?_; clear s; intro wr hZ s; have hR := s.wd
   refine qt s hR rfl (y_move s rfl) fun a s => ?_
   refine qt s hR rfl (yl_b (y_gtrN (i := t_3) (j := 0) s rfl rfl) hs26e) fun a s => ?_
   refine qt s hR rfl (y_move s rfl) fun a s => ?_
   refine q_pass s hR rfl rfl ⟨_, _, _, rfl, rfl, rfl, rfl⟩ rfl fun a s => ?_
   refine q_pass s hR rfl rfl ⟨_, _, _, rfl, rfl, rfl, rfl⟩ rfl fun a s => ?_
   refine q_pass s hR rfl rfl ⟨_, _, _, rfl, rfl, rfl, rfl⟩ rfl fun a s => ?_
   refine q_pass s hR rfl rfl ⟨_, _, _, rfl, rfl, rfl, rfl⟩ rfl fun a s => ?_
   refine q_pass s hR rfl rfl ⟨_, _, _, rfl, rfl, rfl, rfl⟩ rfl fun a s => ?_
   refine q_pass s hR rfl rfl ⟨_, _, _, rfl, rfl, rfl, rfl⟩ rfl fun a s => ?_
   refine q_pass s hR rfl rfl ⟨_, _, _, rfl, rfl, rfl, rfl⟩ rfl fun a s => ?_
   refine q_pass s hR rfl rfl ⟨_, _, _, rfl, rfl, rfl, rfl⟩ rfl fun a s => ?_
   refine q_pass s hR rfl rfl ⟨_, _, _, rfl, rfl, rfl, rfl⟩ rfl fun a s => ?_
   refine q_pass s hR rfl rfl ⟨_, _, _, rfl, rfl, rfl, rfl⟩ rfl fun a s => ?_
   refine qt s hR rfl (y_pick_f s rfl rfl) fun a s => ?_
   clear hR hZ
   apply pN
   exact ⟨(false), hg, (s.sb rfl rfl rfl)⟩
  clear s a; rintro a w ⟨t_25, hg, s⟩
  subst hk24
  refine c_cond s rfl (fun hc32 => ?_) (fun hc32 => ?_)
  ·replace hg := br_t hg hc32
   apply wR
   refine asg s rfl rfl fun a s => ?_
   apply wN
   apply wp_ret
   refine p_inR ?_
   refine p_thenR ?_
   refine p_thenR ?_
   refine p_inR ?_
   refine p_thenR ?_
   obtain rfl := Option.some.inj hg
   refine fin1 (fn := Tryz.f16) s rfl (r_tmp s rfl) ?_
   exact rfl
  replace hg := br_n hg hc32
  apply wp_skip
  refine p_inN ?_
  apply pN
  apply wL
  refine qq s rfl (y_addN (i := t_3) (j := 1) s rfl rfl (in64.2 (by omega))) fun a s => ?_
  refine mv s rfl rfl fun a s => ?_
  apply wN
  exact ⟨m1, Nat.lt_succ_self _, ⟨(t_3 + 1), hg, (s.sb rfl rfl rfl)⟩⟩
 replace hg := br_f hg hc4
 apply wp_exit
 refine p_then ?_
 refine p_then ?_
 refine p_in ?_
 apply pN
 apply wR
 refine asg s rfl rfl fun a s => ?_
 apply wN
 apply wp_ret
 obtain rfl := Option.some.inj hg
 refine fin1 (fn := Tryz.f16) s rfl (r_tmp s rfl) ?_
 exact rfl
end Go.Proofs.YthgdajiipojnoaaGreatDoor
