/- Chapter 37: the walks, part 2 -/
import Derived.Test.YthgdajiipojnoaaGreatDoorW1
namespace Go.Proofs.YthgdajiipojnoaaGreatDoor
open Go.Gl Go.RowKit Tryz
set_option linter.unusedVariables false
set_option linter.unusedSimpArgs false
set_option maxRecDepth 4000

set_option maxHeartbeats 400000 in
theorem c_r37_Check (n : Nat) (M : Bs) (w0 : World) (hM : ∀ b, M b → b < w0.heap.size) (m_ : Model) (Ap01 : Option Addr) (cp01 : Nat) (hp01 : SlR RWeight M w0 Ap01 (m_.Weights).length cp01 (m_.Weights)) (r : Int) (hg : r37_Check n m_ = some r) :
    Calls Tryz.prog 5 [.agg #[.slice (Ap01) ((m_.Weights).length) (cp01)]].toArray w0 (Ret noB w0 fun v w => v = .int .i64 (r)) := by
 unfold r37_Check at hg
 refine enter M noB func5 rfl rfl hM ?_
 intro a s
 replace s := s.es 101 hp01
 apply wR
 refine l_seq rfl (l_box (zs := [sl Ap01 (m_.Weights) cp01]) s 1000 rfl rfl rfl rfl fun b2 a w hb hK s => ?_)
 refine asg s rfl rfl fun a s => ?_
 apply wN
 apply wQ
 apply wR
 refine asg s rfl rfl fun a s => ?_
 apply wN
 apply wp_block
 refine c_loop (σ := Nat) (fun m1 a w => ∃ (i_3 : Nat), r37_Check_L0 n m_ m1 i_3 = some r ∧ St (⟨Tryz.f5.ntmps, M, noB, w0⟩ : Ctx) [(1, vP b2 0), (3, vI (((i_3 : Nat) : Int)))] [(1000, Ob.box b2 [sl Ap01 (m_.Weights) cp01] 24)] [(101, slF RWeight (Ap01) ((m_.Weights).length) (cp01) (m_.Weights))] a w) (fun m1 => m1) n ⟨(0), hg, (s.sb rfl rfl rfl)⟩ ?_
 clear s a; rintro m1 a w ⟨i_3, hg, s⟩
 rcases m1 with _ | m1
 ·rw [r37_Check_L0] at hg; cases hg
 rw [r37_Check_L0] at hg
 apply wQ
 apply wR
 refine mv s rfl rfl fun a s => ?_
 refine qq s rfl (y_boxField (o' := 0) s rfl underlying24 rfl rfl rfl) fun a s => ?_
 refine qq s rfl (y_loadBox1 (kk := 1000) s rfl rfl rfl underlying22 rfl) fun a s => ?_
 refine qq s rfl (y_lenSlice s rfl underlying22) fun a s => ?_
 refine qq s rfl (y_lssN (i := i_3) (j := ((m_.Weights).length)) s rfl rfl) fun a s => ?_
 apply wN
 refine c_dec s rfl (fun hc4 => ?_) (fun hc4 => ?_)
 ·replace hg := br_t hg hc4
  have hmx5 := SlR.mx (s.ft 101 rfl)
  apply wp_skip
  apply pN
  apply wQ
  apply wp_block
  apply wQ
  obtain ⟨x7, hx7, hg⟩ := bind_some hg
  apply wL
  refine qq s rfl (y_boxField (o' := 0) s rfl underlying24 rfl rfl rfl) fun a s => ?_
  refine qq s rfl (y_loadBox1 (kk := 1000) s rfl rfl rfl underlying22 rfl) fun a s => ?_
  refine mv s rfl rfl fun a s => ?_
  obtain ⟨p10, hep10, hpp10⟩ := SlR.elemX (s.ft 101 rfl) hx7
  refine qq s rfl (y_elem (sz := 2) (i := i_3) s rfl rfl underlying22 rfl hep10 rfl (lt_of_get hx7)) fun a s => ?_
  obtain ⟨hlq11, hmq11, csq11, hdq11, hcq11⟩ := hpp10
  obtain ⟨rfl, lq111⟩ := RWeight.open hdq11
  refine qq s rfl (y_ldp s rfl hlq11 hmq11 (by simpa using hcq11) underlying39 rfl rfl) fun a s => ?_
  refine l_seq rfl (l_alloc (zs := [vT ([]), vI 0]) s 1405 rfl rfl rfl rfl fun b12 a w hb hK s => ?_)
  refine l_seq rfl (l_store (n := 2) (cs' := [vT (x7.Feature), vI (x7.Value)]) s 1405 rfl rfl rfl rfl rfl rfl rfl rfl ?_); clear s; intro w hK s; clear hK
  apply wN
  apply wQ
  apply wQ
  obtain ⟨r13, hr13, hg⟩ := bind_some hg
  apply wL
  refine qq s rfl (y_boxField (o' := 0) s rfl underlying39 rfl rfl rfl) fun a s => ?_
  refine qq s rfl (y_loadBox1 (kk := 1405) s rfl rfl rfl underlying9 rfl) fun a s => ?_
  refine l_seq rfl (l_call (cap := []) s rfl func11 rfl (by kernel_rfl) rfl rfl (c_r37_feature n _ _ s.lt x7.Feature (by omega) r13 hr13) fun v16 a w hK hp s => ?_)
  obtain rfl := hp
  refine qq s rfl (y_not s rfl) fun a s => ?_
  apply wN
  refine c_cond s rfl (fun hc18 => ?_) (fun hc18 => ?_)
  ·replace hg := br_t hg hc18
   apply wR
   refine asg s rfl rfl fun a s => ?_
   apply wN
   apply wp_ret
   refine p_thenR ?_
   refine p_inR ?_
   refine p_thenR ?_
   refine p_thenR ?_
   refine p_inR ?_
   refine p_thenR ?_
   obtain rfl := Option.some.inj hg
   refine fin1 (fn := Tryz.f5) s rfl (r_tmp s rfl) ?_
   exact rfl
  replace hg := br_n hg hc18
  apply wp_skip
  apply pN
  apply wQ
  apply wQ
  obtain ⟨k19, hg, hk19⟩ := jn_some hg
  refine c_post (fun a w => ∃ (t_20 : Bool), k19 t_20 = some r ∧ St (⟨Tryz.f5.ntmps, M, noB, w0⟩ : Ctx) [(1, vP b2 0), (3, vI (((i_3 : Nat) : Int))), (4, vP b12 0), (33, .bool (t_20))] [(1000, Ob.box b2 [sl Ap01 (m_.Weights) cp01] 24), (1405, Ob.box b12 [vT (x7.Feature), vI (x7.Value)] 39)] [(101, slF RWeight (Ap01) ((m_.Weights).length) (cp01) (m_.Weights))] a w) ?_ ?_
  ·rcases Decidable.em (x7.Value = 0) with hs21 | hs21
   ·have hs21e := decide_eq_true hs21
    replace hg := br_t hg hs21
    apply wL
    refine qq s rfl (y_boxField (o' := 1) s rfl underlying39 rfl rfl rfl) fun a s => ?_
    refine qq s rfl (y_loadBox1 (kk := 1405) s rfl rfl rfl underlying3 rfl) fun a s => ?_
    refine qq s rfl (yl_b (y_eql s rfl rfl) hs21e) fun a s => ?_
    refine mv s rfl rfl fun a s => ?_
    refine gn s rfl fun a s => ?_
    refine gn s rfl fun a s => ?_
    refine gn s rfl fun a s => ?_
    refine qq s rfl (y_pick_t s rfl rfl) fun a s => ?_
    refine mv s rfl rfl fun a s => ?_
    refine gn s rfl fun a s => ?_
    refine gn s rfl fun a s => ?_
    refine gn s rfl fun a s => ?_
    refine qq s rfl (y_pick_t s rfl rfl) fun a s => ?_
    apply wN
    exact ⟨(true), hg, (s.sb rfl rfl rfl)⟩
   have hs21e := decide_eq_false hs21
   replace hg := br_f hg hs21
   rcases Decidable.em (x7.Value < (-1048576)) with hs22 | hs22
   ·have hs22e := decide_eq_true hs22
    replace hg := br_t hg hs22
    apply wL
    refine qq s rfl (y_boxField (o' := 1) s rfl underlying39 rfl rfl rfl) fun a s => ?_
    refine qq s rfl (y_loadBox1 (kk := 1405) s rfl rfl rfl underlying3 rfl) fun a s => ?_
    refine qq s rfl (yl_b (y_eql s rfl rfl) hs21e) fun a s => ?_
    refine mv s rfl rfl fun a s => ?_
    refine gy s rfl (y_boxField (o' := 1) s rfl underlying39 rfl rfl rfl) fun a s => ?_
    refine gy s rfl (y_loadBox1 (kk := 1405) s rfl rfl rfl underlying3 rfl) fun a s => ?_
    refine gy s rfl (yl_b (y_lss s rfl rfl) hs22e) fun a s => ?_
    refine qq s rfl (y_pick_f s rfl rfl) fun a s => ?_
    refine mv s rfl rfl fun a s => ?_
    refine gn s rfl fun a s => ?_
    refine gn s rfl fun a s => ?_
    refine gn s rfl fun a s => ?_
    refine qq s rfl (y_pick_t s rfl rfl) fun a s => ?_
    apply wN
    exact ⟨(true), hg, (s.sb rfl rfl rfl)⟩
   have hs22e := decide_eq_false hs22
   replace hg := br_f hg hs22
   apply wL
   refine qq s rfl (y_boxField (o' := 1) s rfl underlying39 rfl rfl rfl) fun a s => ?_
   refine qq s rfl (y_loadBox1 (kk := 1405) s rfl rfl rfl underlying3 rfl) fun a s => ?_
   refine qq s rfl (yl_b (y_eql s rfl rfl) hs21e) fun a s => ?_
   refine mv s rfl rfl fun a s => ?_
   refine gy s rfl (y_boxField (o' := 1) s rfl underlying39 rfl rfl rfl) fun a s => ?_
   refine gy s rfl (y_loadBox1 (kk := 1405) s rfl rfl rfl underlying3 rfl) fun a s => ?_
   refine gy s rfl (yl_b (y_lss s rfl rfl) hs22e) fun a s => ?_
   refine qq s rfl (y_pick_f s rfl rfl) fun a s => ?_
   refine mv s rfl rfl fun a s => ?_
   refine gy s rfl (y_boxField (o' := 1) s rfl underlying39 rfl rfl rfl) fun a s => ?_
   refine gy s rfl (y_loadBox1 (kk := 1405) s rfl rfl rfl underlying3 rfl) fun a s => ?_
   refine gy s rfl (y_gtr s rfl rfl) fun a s => ?_
   refine qq s rfl (y_pick_f s rfl rfl) fun a s => ?_
   apply wN
   exact ⟨(decide ((1048576 : Int) < x7.Value)), hg, (s.sb rfl rfl rfl)⟩
  clear s a; rintro a w ⟨t_20, hg, s⟩
  subst hk19
  refine c_cond s rfl (fun hc23 => ?_) (fun hc23 => ?_)
  ·replace hg := br_t hg hc23
   apply wR
   refine asg s rfl rfl fun a s => ?_
   apply wN
   apply wp_ret
   refine p_thenR ?_
   refine p_inR ?_
   refine p_thenR ?_
   refine p_thenR ?_
   refine p_inR ?_
   refine p_thenR ?_
   obtain rfl := Option.some.inj hg
   refine fin1 (fn := Tryz.f5) s rfl (r_tmp s rfl) ?_
   exact rfl
  replace hg := br_n hg hc23
  apply wp_skip
  apply pN
  apply wQ
  obtain ⟨k24, hg, hk24⟩ := jn_some hg
  refine c_post (fun a w => ∃ (t_25 : Bool), k24 t_25 = some r ∧ St (⟨Tryz.f5.ntmps, M, noB, w0⟩ : Ctx) [(1, vP b2 0), (3, vI (((i_3 : Nat) : Int))), (47, .bool (t_25))] [(1000, Ob.box b2 [sl Ap01 (m_.Weights) cp01] 24)] [(101, slF RWeight (Ap01) ((m_.Weights).length) (cp01) (m_.Weights))] a w) ?_ ?_
  ·rcases Decidable.em ((0 : Nat) < i_3) with hs26 | hs26
   ·have hs26e := decide_eq_true hs26
    replace hg := br_t hg hs26
    obtain ⟨x28, hx28, hg⟩ := bind_some hg
    refine d_plan s [] [(0, some 0), (1, some 0), (2, some 0), (3, some 0), (4, some 1405), (5, some 0), (6, some 1000), (7, some 0), (8, some 0), (9, some 0), (10, some 0), (11, some 0), (12, some 0), (13, some 0)] rfl (by kernel_rfl) (by kernel_rfl) rfl ?_; clear s; intro wr hZ s; have hR := s.wd
    refine qt s hR rfl (y_move s rfl) fun a s => ?_
    refine qt s hR rfl (yl_b (y_gtrN (i := i_3) (j := 0) s rfl rfl) hs26e) fun a s => ?_
    refine qt s hR rfl (y_move s rfl) fun a s => ?_
    refine qg s hR rfl (y_boxField (o' := 0) s rfl underlying39 rfl rfl rfl) fun a s => ?_
    refine qg s hR rfl (y_loadBox1 (kk := 1405) s rfl rfl rfl underlying9 rfl) fun a s => ?_
    refine qg s hR rfl (y_boxField (o' := 0) s rfl underlying24 rfl rfl rfl) fun a s => ?_
    refine qg s hR rfl (y_loadBox1 (kk := 1000) s rfl rfl rfl underlying22 rfl) fun a s => ?_
    refine qg s hR rfl (y_move s rfl) fun a s => ?_
    refine qg s hR rfl (y_sub s rfl rfl (in64.2 (by omega))) fun a s => ?_
    obtain ⟨p30, hep30, hpp30⟩ := SlR.elemX (s.ft 101 rfl) (ix_some hx28).1
    refine qg s hR rfl (y_elem (sz := 2) (i := ((((i_3 : Nat) : Int) - 1).toNat)) s rfl rfl underlying22 rfl hep30 (ix_some hx28).2.1 (lt_of_get (ix_some hx28).1)) fun a s => ?_
    refine qg s hR rfl (y_ptrField (o' := 0) s rfl underlying39 rfl rfl rfl) fun a s => ?_
    obtain ⟨hlq31, hmq31, csq31, hdq31, hcq31⟩ := hpp30
    obtain ⟨rfl, lq311⟩ := RWeight.open hdq31
    refine qg s hR rfl (y_ldp1 s rfl hlq31 hmq31 (hcq31 0 _ rfl) underlying9 rfl) fun a s => ?_
    refine qg s hR rfl (y_sleq s rfl rfl) fun a s => ?_
    refine qt s hR rfl (y_pick_t s rfl rfl) fun a s => ?_
    clear hR hZ
    apply pN
    exact ⟨((Op.bytesLess x7.Feature x28.Feature) || (x7.Feature == x28.Feature)), hg, (s.sb rfl rfl rfl)⟩
   have hs26e := decide_eq_false hs26
   replace hg := br_f hg hs26
   refine d_plan s [] [(0, some 0), (1, some 0), (2, some 0), (3, some 0), (4, some 0), (5, some 0), (6, some 0), (7, some 0), (8, some 0), (9, some 0), (10, some 0), (11, some 0), (12, some 0), (13, some 0)] rfl (by kernel_rfl) (by kernel_rfl) rfl ?_; clear s; intro wr hZ s; have hR := s.wd
   refine qt s hR rfl (y_move s rfl) fun a s => ?_
   refine qt s hR rfl (yl_b (y_gtrN (i := i_3) (j := 0) s rfl rfl) hs26e) fun a s => ?_
   refine qt s hR rfl (y_move s rfl) fun a s => ?_
   refine q_pass s hR rfl rfl ⟨_, _, _, rfl, rfl, rfl, rfl⟩ rfl fun a s => ?_
   refine q_pass s hR rfl rfl ⟨_, _, _, rfl, rfl, rfl, rfl⟩ rfl fun a s => ?_
   refine q_pass s hR rfl rfl ⟨_, _, _, rfl, rfl, rfl, rfl⟩ rfl fun a s => ?_
   refine q_pass s hR rfl rfl ⟨_, _, _, rfl, rfl, rfl, rfl⟩ rfl fun a s => ?_
   refine q_pass s hR rfl rfl ⟨_, _, _, rfl, rfl, rfl, rfl⟩ rfl fun a s => ?_
   refine q_pass s hR rfl rfl ⟨_, _, _, rfl, rfl, rfl, rfl⟩ rfl fun a s => ?_
   refine q_pass s hR rfl rfl ⟨_, _, _, rfl, rfl, rfl, rfl⟩ rfl fun a s => ?_
   refine q_pass s hR rfl rfl ⟨_, _, _, rfl, rfl, rfl, rfl⟩ rfl fun a s => ?_
   refine q_pass s hR rfl rfl ⟨_, _, _, rfl, rfl, rfl, rfl⟩ rfl fun a s => ?_
   refine q_pass s hR rfl rfl ⟨_, _, _, rfl, rfl, rfl, rfl⟩ rfl fun a s => ?_
   refine qt s hR rfl (y_pick_f s rfl rfl) fun a s => ?_
   clear hR hZ
   apply pN
   exact ⟨(false), hg, (s.sb rfl rfl rfl)⟩
  clear s a; rintro a w ⟨t_25, hg, s⟩
  subst hk24
  refine c_cond s rfl (fun hc32 => ?_) (fun hc32 => ?_)
  ·replace hg := br_t hg hc32
   apply wR
   refine asg s rfl rfl fun a s => ?_
   apply wN
   apply wp_ret
   refine p_inR ?_
   refine p_thenR ?_
   refine p_thenR ?_
   refine p_inR ?_
   refine p_thenR ?_
   obtain rfl := Option.some.inj hg
   refine fin1 (fn := Tryz.f5) s rfl (r_tmp s rfl) ?_
   exact rfl
  replace hg := br_n hg hc32
  apply wp_skip
  refine p_inN ?_
  apply pN
  apply wL
  refine mv s rfl rfl fun a s => ?_
  refine qq s rfl (y_addN (i := i_3) (j := 1) s rfl rfl (in64.2 (by omega))) fun a s => ?_
  refine asg s rfl rfl fun a s => ?_
  apply wN
  exact ⟨m1, Nat.lt_succ_self _, ⟨(i_3 + 1), hg, (s.sb rfl rfl rfl)⟩⟩
 replace hg := br_f hg hc4
 apply wp_exit
 refine p_then ?_
 refine p_then ?_
 refine p_in ?_
 apply pN
 apply wR
 refine asg s rfl rfl fun a s => ?_
 apply wN
 apply wp_ret
 obtain rfl := Option.some.inj hg
 refine fin1 (fn := Tryz.f5) s rfl (r_tmp s rfl) ?_
 exact rfl
set_option maxHeartbeats 400000 in
theorem c_model_Features (n : Nat) : ∀ (M : Bs) (w0 : World) (hM : ∀ b, M b → b < w0.heap.size) (d_ : Deriv) (Ap05 : Option Addr) (cp05 : Nat) (lp02 : (d_.Name).length ≤ 9223372036854775807) (hp05 : SlR RDeriv M w0 Ap05 (d_.Kids).length cp05 (d_.Kids)) (r : (List (List UInt8))) (hg : model_Features n d_ = some r),
    Calls Tryz.prog 13 [.agg #[.int .i64 (d_.Kind), .string (bs (d_.Name)), .int .i64 (d_.From), .int .i64 (d_.To), .slice (Ap05) ((d_.Kids).length) (cp05)]].toArray w0 (Ret noB w0 fun v w => ∃ (Aa1 : Option Addr), ∃ (ca1 : Nat), v = .slice (Aa1) ((r).length) (ca1) ∧ (SlR Rep.str M w Aa1 (r).length ca1 (r))) := by
 induction n with
 | zero => intros; rename_i hg; rw [model_Features] at hg; cases hg
 | succ n c_self =>
 intro M w0 hM d_ Ap05 cp05 lp02 hp05 r hg
 rw [model_Features] at hg
 refine enter M noB func13 rfl rfl hM ?_
 intro a s
 replace s := s.es 101 hp05
 apply wR
 refine l_seq rfl (l_box (zs := [vI (d_.Kind), vT (d_.Name), vI (d_.From), vI (d_.To), sl Ap05 (d_.Kids) cp05]) s 1000 rfl rfl rfl rfl fun b2 a w hb hK s => ?_)
 refine asg s rfl rfl fun a s => ?_
 apply wN
 apply wR
 refine qq s rfl (y_boxField (o' := 1) s rfl underlying42 rfl rfl rfl) fun a s => ?_
 refine qq s rfl (y_loadBox1 (kk := 1000) s rfl rfl rfl underlying9 rfl) fun a s => ?_
 refine l_seq rfl (l_buildDense (sz := 1) s 1102 rfl rfl rfl underlying44 rfl rfl rfl rfl rfl rfl rfl fun b4 a w hbb4 hK s => ?_)
 clear hbb4
 refine asg s rfl rfl fun a s => ?_
 apply wN
 apply wQ
 apply wR
 refine qq s rfl (y_boxField (o' := 4) s rfl underlying42 rfl rfl rfl) fun a s => ?_
 refine qq s rfl (y_loadBox1 (kk := 1000) s rfl rfl rfl underlying35 rfl) fun a s => ?_
 refine qq s rfl (y_lenSlice s rfl underlying35) fun a s => ?_
 refine qq s rfl (y_gtrN (i := ((d_.Kids).length)) (j := 0) s rfl rfl) fun a s => ?_
 apply wN
 obtain ⟨k5, hg, hk5⟩ := jn_some hg
 refine c_post (fun a w => ∃ (out_6 : (List (List UInt8))) (A7 : Option Addr) (c8 : Nat) (cs9 : List Value), k5 out_6 = some r ∧ St (⟨Tryz.f13.ntmps, M, noB, w0⟩ : Ctx) [(1, vP b2 0), (3, sl A7 (out_6) c8)] [(1000, Ob.box b2 [vI (d_.Kind), vT (d_.Name), vI (d_.From), vI (d_.To), sl Ap05 (d_.Kids) cp05] 42), (700102, Ob.row (A7) ((out_6).length) (c8) 9 1 (cs9))] [(101, slF RDeriv (Ap05) ((d_.Kids).length) (cp05) (d_.Kids)), (103, rdF Rep.str (cs9) (out_6))] a w) ?_ ?_
 ·refine c_dec s rfl (fun hc10 => ?_) (fun hc10 => ?_)
  ·replace hg := br_t hg hc10
   have hmx11 := SlR.mx (s.ft 101 rfl)
   apply wR
   refine asg s rfl rfl fun a s => ?_
   apply wN
   apply wQ
   apply wR
   refine qq s rfl (y_boxField (o' := 4) s rfl underlying42 rfl rfl rfl) fun a s => ?_
   refine qq s rfl (y_loadBox1 (kk := 1000) s rfl rfl rfl underlying35 rfl) fun a s => ?_
   refine qq s rfl (y_lenSlice s rfl underlying35) fun a s => ?_
   refine mv s rfl rfl fun a s => ?_
   apply wN
   obtain ⟨k12, hg, hk12⟩ := jn_some hg
   refine c_post (fun a w => ∃ (names_13 : (List (List UInt8))) (A14 : Option Addr) (c15 : Nat) (cs16 : List Value), k12 names_13 = some r ∧ St (⟨Tryz.f13.ntmps, M, noB, w0⟩ : Ctx) [(1, vP b2 0), (3, .slice (some ⟨b4, 0, none⟩) (1) (1)), (4, sl A14 (names_13) c15)] [(1000, Ob.box b2 [vI (d_.Kind), vT (d_.Name), vI (d_.From), vI (d_.To), sl Ap05 (d_.Kids) cp05] 42), (1102, Ob.row (some ⟨b4, 0, none⟩) (1) (1) 9 1 (cellsOfL [vT (d_.Name)])), (700104, Ob.row (A14) ((names_13).length) (c15) 9 1 (cs16))] [(101, slF RDeriv (Ap05) ((d_.Kids).length) (cp05) (d_.Kids)), (105, rdF Rep.str (cs16) (names_13))] a w) ?_ ?_
   ·apply wp_block
    replace s := s.nilRow 700106 9 1 rfl
    replace s := s.add 107 (rdF Rep.str [] []) (RdAll.nil _ _ _)
    refine c_loop (σ := Nat) (fun m1 a w => ∃ (names_17 : (List (List UInt8))) (t_21 : Nat) (A18 : Option Addr) (c19 : Nat) (cs20 : List Value), model_Features_L0 n d_ k12 m1 names_17 t_21 = some r ∧ St (⟨Tryz.f13.ntmps, M, noB, w0⟩ : Ctx) [(1, vP b2 0), (3, .slice (some ⟨b4, 0, none⟩) (1) (1)), (4, sl A18 (names_17) c19), (17, sl Ap05 (d_.Kids) cp05), (18, vI ((((d_.Kids).length : Nat) : Int))), (19, vI (((t_21 : Nat) : Int)))] [(1000, Ob.box b2 [vI (d_.Kind), vT (d_.Name), vI (d_.From), vI (d_.To), sl Ap05 (d_.Kids) cp05] 42), (1102, Ob.row (some ⟨b4, 0, none⟩) (1) (1) 9 1 (cellsOfL [vT (d_.Name)])), (700106, Ob.row (A18) ((names_17).length) (c19) 9 1 (cs20))] [(101, slF RDeriv (Ap05) ((d_.Kids).length) (cp05) (d_.Kids)), (107, rdF Rep.str (cs20) (names_17))] a w) (fun m1 => m1) n ⟨([]), (0), (none), (0), ([]), hg, (s.sb rfl rfl rfl)⟩ ?_
    clear s a; rintro m1 a w ⟨names_17, t_21, A18, c19, cs20, hg, s⟩
    rcases m1 with _ | m1
    ·rw [model_Features_L0] at hg; cases hg
    rw [model_Features_L0] at hg
    apply wR
    refine qq s rfl (y_lssN (i := t_21) (j := ((d_.Kids).length)) s rfl rfl) fun a s => ?_
    apply wN
    apply wQ
    refine c_dec s rfl (fun hc22 => ?_) (fun hc22 => ?_)
    ·replace hg := br_t hg hc22
     have hmx23 := SlR.mx (s.ft 101 rfl)
     apply wp_skip
     apply pN
     apply wQ
     apply wp_block
     apply wQ
     obtain ⟨x25, hx25, hg⟩ := bind_some hg
     apply wL
     obtain ⟨p28, hep28, hpp28⟩ := SlR.elemX (s.ft 101 rfl) hx25
     refine qq s rfl (y_elem (sz := 5) (i := t_21) s rfl rfl underlying35 rfl hep28 rfl (lt_of_get hx25)) fun a s => ?_
     obtain ⟨hlq29, hmq29, csq29, hdq29, hcq29⟩ := hpp28
     obtain ⟨Aq295, cq295, rfl, lq292, hq295⟩ := RDeriv.open hdq29
     replace s := s.ns 109 hq295
     refine qq s rfl (y_ldp s rfl hlq29 hmq29 (by simpa using hcq29) underlying42 rfl rfl) fun a s => ?_
     refine l_seq rfl (l_alloc (zs := [vI 0, vT ([]), vI 0, vI 0, .slice (none) (0) (0)]) s 1602 rfl rfl rfl rfl fun b30 a w hb hK s => ?_)
     refine l_seq rfl (l_store (n := 5) (cs' := [vI (x25.Kind), vT (x25.Name), vI (x25.From), vI (x25.To), sl Aq295 (x25.Kids) cq295]) s 1602 rfl rfl rfl rfl rfl rfl rfl rfl ?_); clear s; intro w hK s; clear hK
     apply wN
     obtain ⟨hk32, hg⟩ := chk_some hg
     apply wL
     refine mv s rfl rfl fun a s => ?_
     refine qq s rfl (y_boxField (o' := 1) s rfl underlying42 rfl rfl rfl) fun a s => ?_
     refine qq s rfl (y_loadBox1 (kk := 1602) s rfl rfl rfl underlying9 rfl) fun a s => ?_
     refine l_seq rfl (l_buildDense (sz := 1) s 1703 rfl rfl rfl underlying44 rfl rfl rfl rfl rfl rfl rfl fun b35 a w hbb35 hK s => ?_)
     clear hbb35
     replace s := s.add 112 (rdF Rep.str (cellsOfL [vT (x25.Name)]) ([x25.Name])) (RdAll.cons (by exact ⟨rfl, (by omega)⟩) (RdAll.nil _ _ _))
     have hs37 := row_src (s.wd.holds 1703 _ rfl) (RdAll.one (s.ft 112 rfl))
     refine l_seq rfl (l_append (sz := 1) (by_ := 16) (N := (names_17 ++ [x25.Name]).length) (ys := cs20 ++ (cellsOfL [vT (x25.Name)])) s 700106 rfl rfl rfl underlying44 rfl rfl rfl rfl rfl hs37 (by first | (simp; done) | (simp; omega)) rfl (by have hr := hk32; clear hg; first | omega | (simp only [List.length_append, List.length_cons, List.length_nil] at hr ⊢; omega) | (simp at hr ⊢; omega)) (by have hr := hk32; clear hg; first | omega | (simp only [List.length_append, List.length_cons, List.length_nil] at hr ⊢; omega) | (simp at hr ⊢; omega)) rfl fun Aq36 cq36 a w hA hK s => ?_)
     replace s := s.add 113 (rdF Rep.str (cs20 ++ (cellsOfL [vT (x25.Name)])) (names_17 ++ [x25.Name])) (RdAll.append (s.ft 107 rfl) (s.ft 112 rfl))
     refine asg s rfl rfl fun a s => ?_
     apply wO
     refine p_inN ?_
     apply pN
     apply wL
     refine qq s rfl (y_addN (i := t_21) (j := 1) s rfl rfl (in64.2 (by omega))) fun a s => ?_
     refine mv s rfl rfl fun a s => ?_
     apply wN
     replace s := s.add 107 (rdF Rep.str (cs20 ++ (cellsOfL [vT (x25.Name)])) (names_17 ++ [x25.Name])) (s.ft 113 rfl)
     exact ⟨m1, Nat.lt_succ_self _, ⟨(names_17 ++ [x25.Name]), (t_21 + 1), (Aq36), (cq36), (cs20 ++ (cellsOfL [vT (x25.Name)])), hg, (s.sb rfl rfl rfl)⟩⟩
    replace hg := br_f hg hc22
    apply wp_exit
    refine p_then ?_
    refine p_then ?_
    refine p_in ?_
    apply pN
    replace s := s.al 105 107 rfl
    replace s := s.pk [(1000, 1000), (1102, 1102), (700104, 700106)] (by decide)
    exact ⟨(names_17), (A18), (c19), (cs20), hg, (s.sb rfl rfl rfl)⟩
   clear s a; rintro a w ⟨names_13, A14, c15, cs16, hg, s⟩
   subst hk12
   obtain ⟨hk38, hg⟩ := chk_some hg
   obtain ⟨r39, hr39, hg⟩ := bind_some hg
   obtain ⟨hk42, hg⟩ := chk_some hg
   obtain ⟨hk44, hg⟩ := chk_some hg
   refine d_plan s [(8, 1102)] [(0, some 0), (1, some 0), (2, some 1000), (3, some 0), (4, some 0), (5, none), (6, none), (7, none), (8, none), (9, none)] rfl (by kernel_rfl) (by kernel_rfl) rfl ?_; clear s; intro wr hZ s; have hR := s.wd
   refine qt s hR rfl (y_move s rfl) fun a s => ?_
   refine qt s hR rfl (y_boxField (o' := 1) s rfl underlying42 rfl rfl rfl) fun a s => ?_
   refine qt s hR rfl (y_loadBox1 (kk := 1000) s rfl rfl rfl underlying9 rfl) fun a s => ?_
   refine qt s hR rfl (y_concat s rfl rfl hk38) fun a s => ?_
   refine qt s hR rfl (y_move s rfl) fun a s => ?_
   have hT := s
   replace hT := hT.fz (R := Rep.str) (kk := 700104) [1000, 1102] 118 rfl rfl (hT.ft 105 rfl) rfl
   refine l_take s rfl rfl (l_call (cap := []) s rfl func23 rfl (by kernel_rfl) rfl rfl (c_strings_Join n _ _ hT.lt names_13 (A14) (c15) (hT.ft 118 rfl) [32] (by first | omega | (rw [List.length_append]; omega) | (simp only [List.length_append]; omega) | (simp only [List.length_append, List.length_take, List.length_drop, List.length_cons, List.length_nil]; omega) | exact smin_len (by omega) (by omega)) r39 hr39) fun v47 a w hK hp s => ?_)
   replace hZ := Nat.le_trans hZ hK.size; refine ⟨fun g _ h => h.grow hK, ?_⟩; clear hK
   obtain ⟨rfl, lu48a1⟩ := hp
   refine l_take s rfl rfl (l_quiet s rfl rfl (y_concat s rfl rfl hk42) fun a s => ?_); refine ⟨fun g _ h => h, ?_⟩
   refine l_take s rfl rfl (l_buildDense (sz := 1) s 1907 rfl rfl rfl underlying44 rfl rfl rfl rfl rfl rfl rfl fun b49 a w hbb49 hK s => ?_)
   have hNb49 := NewA.lit hZ hbb49
   clear hbb49
   replace hZ := Nat.le_trans hZ hK.size; refine ⟨fun g _ h => h.grow hK, ?_⟩; clear hK
   replace s := s.add 119 (rdF Rep.str (cellsOfL [vT (d_.Name)]) ([d_.Name])) (RdAll.cons (by exact ⟨rfl, (by omega)⟩) (RdAll.nil _ _ _))
   replace s := s.add 120 (rdF Rep.str (cellsOfL [vT ((d_.Name ++ [62]) ++ r39)]) ([(d_.Name ++ [62]) ++ r39])) (RdAll.cons (by exact ⟨rfl, (by first | omega | (rw [List.length_append]; omega) | (simp only [List.length_append]; omega) | (simp only [List.length_append, List.length_take, List.length_drop, List.length_cons, List.length_nil]; omega) | exact smin_len (by omega) (by omega))⟩) (RdAll.nil _ _ _))
   have hs51 := row_src (s.wd.holds 1907 _ rfl) (RdAll.one (s.ft 120 rfl))
   refine l_take s rfl rfl (l_append (sz := 1) (by_ := 16) (N := ([d_.Name] ++ [(d_.Name ++ [62]) ++ r39]).length) (ys := (cellsOfL [vT (d_.Name)]) ++ (cellsOfL [vT ((d_.Name ++ [62]) ++ r39)])) s 1102 rfl rfl rfl underlying44 rfl rfl rfl rfl rfl hs51 (by first | (simp; done) | (simp; omega)) rfl (by have hr := hk44; clear hg; first | omega | (simp only [List.length_append, List.length_cons, List.length_nil] at hr ⊢; omega) | (simp at hr ⊢; omega)) (by have hr := hk44; clear hg; first | omega | (simp only [List.length_append, List.length_cons, List.length_nil] at hr ⊢; omega) | (simp at hr ⊢; omega)) rfl fun Aq50 cq50 a w hA hK s => ?_)
   replace hZ := Nat.le_trans hZ hK.size; refine ⟨fun g hg h => h.obj hR (kk := 1102) rfl hK (by rintro rfl; exact absurd hg (by decide)), ?_⟩
   replace s := s.add 121 (rdF Rep.str ((cellsOfL [vT (d_.Name)]) ++ (cellsOfL [vT ((d_.Name ++ [62]) ++ r39)])) ([d_.Name] ++ [(d_.Name ++ [62]) ++ r39])) (RdAll.append (s.ft 119 rfl) (s.ft 120 rfl))
   refine l_take s rfl rfl (l_quiet s rfl rfl (y_assign s rfl) fun a s => ?_); refine ⟨fun g _ h => h, ?_⟩
   clear hR hZ
   apply pN
   replace s := s.add 103 (rdF Rep.str ((cellsOfL [vT (d_.Name)]) ++ (cellsOfL [vT ((d_.Name ++ [62]) ++ r39)])) ([d_.Name] ++ [(d_.Name ++ [62]) ++ r39])) (s.ft 121 rfl)
   replace s := s.pk [(1000, 1000), (1907, 1907), (700102, 1102), (700104, 700104)] (by decide)
   exact ⟨([d_.Name] ++ [(d_.Name ++ [62]) ++ r39]), (Aq50), (cq50), ((cellsOfL [vT (d_.Name)]) ++ (cellsOfL [vT ((d_.Name ++ [62]) ++ r39)])), hg, (s.sb rfl rfl rfl)⟩
  replace hg := br_f hg hc10
  apply wp_skip
  apply pN
  replace s := s.add 122 (rdF Rep.str (cellsOfL [vT (d_.Name)]) ([d_.Name])) (RdAll.cons (by exact ⟨rfl, (by omega)⟩) (RdAll.nil _ _ _))
  replace s := s.al 103 122 rfl
  replace s := s.pk [(1000, 1000), (700102, 1102)] (by decide)
  exact ⟨([d_.Name]), (some ⟨b4, 0, none⟩), (1), (cellsOfL [vT (d_.Name)]), hg, (s.sb rfl rfl rfl)⟩
 clear s a; rintro a w ⟨out_6, A7, c8, cs9, hg, s⟩
 subst hk5
 apply wQ
 apply wR
 refine qq s rfl (y_boxField (o' := 4) s rfl underlying42 rfl rfl rfl) fun a s => ?_
 refine qq s rfl (y_loadBox1 (kk := 1000) s rfl rfl rfl underlying35 rfl) fun a s => ?_
 refine qq s rfl (y_lenSlice s rfl underlying35) fun a s => ?_
 refine mv s rfl rfl fun a s => ?_
 apply wN
 apply wp_block
 replace s := s.al 124 103 rfl
 replace s := s.pk [(1000, 1000), (700123, 700102)] (by decide)
 refine c_loop (σ := Nat) (fun m2 a w => ∃ (out_52 : (List (List UInt8))) (t_56 : Nat) (A53 : Option Addr) (c54 : Nat) (cs55 : List Value), model_Features_L1 n d_ (model_Features n) m2 out_52 t_56 = some r ∧ St (⟨Tryz.f13.ntmps, M, noB, w0⟩ : Ctx) [(3, sl A53 (out_52) c54), (39, sl Ap05 (d_.Kids) cp05), (40, vI ((((d_.Kids).length : Nat) : Int))), (41, vI (((t_56 : Nat) : Int)))] [(700123, Ob.row (A53) ((out_52).length) (c54) 9 1 (cs55))] [(101, slF RDeriv (Ap05) ((d_.Kids).length) (cp05) (d_.Kids)), (124, rdF Rep.str (cs55) (out_52))] a w) (fun m2 => m2) n ⟨(out_6), (0), (A7), (c8), (cs9), hg, (s.sb rfl rfl rfl)⟩ ?_
 clear s a; rintro m2 a w ⟨out_52, t_56, A53, c54, cs55, hg, s⟩
 rcases m2 with _ | m2
 ·rw [model_Features_L1] at hg; cases hg
 rw [model_Features_L1] at hg
 apply wR
 refine qq s rfl (y_lssN (i := t_56) (j := ((d_.Kids).length)) s rfl rfl) fun a s => ?_
 apply wN
 apply wQ
 refine c_dec s rfl (fun hc57 => ?_) (fun hc57 => ?_)
 ·replace hg := br_t hg hc57
  have hmx58 := SlR.mx (s.ft 101 rfl)
  apply wp_skip
  apply pN
  apply wQ
  apply wp_block
  apply wQ
  obtain ⟨x60, hx60, hg⟩ := bind_some hg
  apply wL
  obtain ⟨p63, hep63, hpp63⟩ := SlR.elemX (s.ft 101 rfl) hx60
  refine qq s rfl (y_elem (sz := 5) (i := t_56) s rfl rfl underlying35 rfl hep63 rfl (lt_of_get hx60)) fun a s => ?_
  obtain ⟨hlq64, hmq64, csq64, hdq64, hcq64⟩ := hpp63
  obtain ⟨Aq645, cq645, rfl, lq642, hq645⟩ := RDeriv.open hdq64
  replace s := s.ns 126 hq645
  refine qq s rfl (y_ldp s rfl hlq64 hmq64 (by simpa using hcq64) underlying42 rfl rfl) fun a s => ?_
  refine l_seq rfl (l_alloc (zs := [vI 0, vT ([]), vI 0, vI 0, .slice (none) (0) (0)]) s 2202 rfl rfl rfl rfl fun b65 a w hb hK s => ?_)
  refine l_seq rfl (l_store (n := 5) (cs' := [vI (x60.Kind), vT (x60.Name), vI (x60.From), vI (x60.To), sl Aq645 (x60.Kids) cq645]) s 2202 rfl rfl rfl rfl rfl rfl rfl rfl ?_); clear s; intro w hK s; clear hK
  apply wN
  obtain ⟨r66, hr66, hg⟩ := bind_some hg
  obtain ⟨hk69, hg⟩ := chk_some hg
  apply wL
  refine mv s rfl rfl fun a s => ?_
  refine qq s rfl (y_loadAll (kk := 2202) s rfl rfl underlying42 rfl rfl) fun a s => ?_
  refine l_seq rfl (l_call (cap := []) s rfl func13 rfl (by kernel_rfl) rfl rfl (c_self _ _ s.lt x60 (Aq645) (cq645) (by omega) (s.ft 126 rfl) r66 hr66) fun v72 a w hK hp s => ?_)
  obtain ⟨Au73a1, cu73a1, rfl, hu73a1⟩ := hp
  replace s := s.ns 130 hu73a1
  obtain ⟨ns75, hs75, hns75⟩ := SlR.src (s.ft 130 rfl)
  replace s := s.add 131 (rdF Rep.str ns75 (r66)) hns75
  refine l_seq rfl (l_append (sz := 1) (by_ := 16) (N := (out_52 ++ r66).length) (ys := cs55 ++ ns75) s 700123 rfl rfl rfl underlying44 rfl rfl rfl rfl rfl hs75 (by first | (simp; done) | (simp; omega)) rfl (by have hr := hk69; clear hg; first | omega | (simp only [List.length_append, List.length_cons, List.length_nil] at hr ⊢; omega) | (simp at hr ⊢; omega)) (by have hr := hk69; clear hg; first | omega | (simp only [List.length_append, List.length_cons, List.length_nil] at hr ⊢; omega) | (simp at hr ⊢; omega)) rfl fun Aq74 cq74 a w hA hK s => ?_)
  replace s := s.add 132 (rdF Rep.str (cs55 ++ ns75) (out_52 ++ r66)) (RdAll.append (s.ft 124 rfl) (s.ft 131 rfl))
  refine asg s rfl rfl fun a s => ?_
  apply wO
  refine p_inN ?_
  apply pN
  apply wL
  refine qq s rfl (y_addN (i := t_56) (j := 1) s rfl rfl (in64.2 (by omega))) fun a s => ?_
  refine mv s rfl rfl fun a s => ?_
  apply wN
  replace s := s.al 124 132 rfl
  exact ⟨m2, Nat.lt_succ_self _, ⟨(out_52 ++ r66), (t_56 + 1), (Aq74), (cq74), (cs55 ++ ns75), hg, (s.sb rfl rfl rfl)⟩⟩
 replace hg := br_f hg hc57
 apply wp_exit
 refine p_then ?_
 refine p_then ?_
 refine p_in ?_
 apply pN
 apply wR
 refine mv s rfl rfl fun a s => ?_
 refine asg s rfl rfl fun a s => ?_
 apply wN
 apply wp_ret
 obtain rfl := Option.some.inj hg
 refine fin1 (fn := Tryz.f13) s rfl (r_tmp s rfl) ?_
 exact ⟨(A53), (c54), rfl, (s.rowOut (R := Rep.str) (kk := 700123) rfl rfl (s.ft 124 rfl))⟩
set_option maxHeartbeats 400000 in
theorem c_slices_BinarySearchFunc_string (n : Nat) (M : Bs) (w0 : World) (hM : ∀ b, M b → b < w0.heap.size) (x_ : (List Weight)) (Ap01 : Option Addr) (cp01 : Nat) (hp01 : SlR RWeight M w0 Ap01 (x_).length cp01 (x_)) (target_ : (List UInt8)) (lp11 : (target_).length ≤ 9223372036854775807) (cmp_ : ((Weight × (List UInt8)) → Option Int)) (Ap21 : FuncId) (cp21 : List Value) (hp21 : FnR Tryz.prog Ap21 cp21 pre79 post79 (cmp_) M w0) (r : (Int × Bool)) (hg : slices_BinarySearchFunc_string n x_ target_ cmp_ = some r) :
    Calls Tryz.prog 42 [.slice (Ap01) ((x_).length) (cp01), .string (bs (target_)), .func (.func Ap21) #[] (List.toArray cp21)].toArray w0 (Ret noB w0 fun v w => v = .tuple #[.int .i64 (r.1), .bool (r.2)]) := by
 unfold slices_BinarySearchFunc_string at hg
 refine enter M noB func42 rfl rfl hM ?_
 intro a s
 replace s := s.es 101 hp01
 replace s := s.add 102 (fnF Tryz.prog Ap21 cp21 pre79 post79 (cmp_)) (by exact Fact.change _ enterM hp21)
 apply wR
 refine asg s rfl rfl fun a s => ?_
 refine asg s rfl rfl fun a s => ?_
 apply wN
 apply wR
 refine mv s rfl rfl fun a s => ?_
 refine qq s rfl (y_lenSlice s rfl underlying22) fun a s => ?_
 refine asg s rfl rfl fun a s => ?_
 apply wN
 apply wR
 refine mv s rfl rfl fun a s => ?_
 refine asg s rfl rfl fun a s => ?_
 refine asg s rfl rfl fun a s => ?_
 apply wN
 apply wQ
 obtain ⟨k1, hg, hk1⟩ := jn_some hg
 refine c_post (fun a w => ∃ (i_2 : Nat), k1 i_2 = some r ∧ St (⟨Tryz.f42.ntmps, M, noB, w0⟩ : Ctx) [(0, sl Ap01 (x_) cp01), (1, vT target_), (2, .func (.func Ap21) #[] (List.toArray cp21)), (8, vI ((((x_).length : Nat) : Int))), (9, vI (((i_2 : Nat) : Int)))] [] [(101, slF RWeight (Ap01) ((x_).length) (cp01) (x_)), (102, fnF Tryz.prog Ap21 cp21 pre79 post79 (cmp_))] a w) ?_ ?_
 ·apply wp_block
  refine c_loop (σ := Nat) (fun m1 a w => ∃ (i_3 : Nat) (j_4 : Nat), slices_BinarySearchFunc_string_L0 n x_ target_ cmp_ k1 m1 i_3 j_4 = some r ∧ St (⟨Tryz.f42.ntmps, M, noB, w0⟩ : Ctx) [(0, sl Ap01 (x_) cp01), (1, vT target_), (2, .func (.func Ap21) #[] (List.toArray cp21)), (8, vI ((((x_).length : Nat) : Int))), (9, vI (((i_3 : Nat) : Int))), (10, vI (((j_4 : Nat) : Int)))] [] [(101, slF RWeight (Ap01) ((x_).length) (cp01) (x_)), (102, fnF Tryz.prog Ap21 cp21 pre79 post79 (cmp_))] a w) (fun m1 => m1) n ⟨(0), ((x_).length), hg, (s.sb rfl rfl rfl)⟩ ?_
  clear s a; rintro m1 a w ⟨i_3, j_4, hg, s⟩
  rcases m1 with _ | m1
  ·rw [slices_BinarySearchFunc_string_L0] at hg; cases hg
  rw [slices_BinarySearchFunc_string_L0] at hg
  apply wQ
  apply wR
  refine mv s rfl rfl fun a s => ?_
  refine mv s rfl rfl fun a s => ?_
  refine qq s rfl (y_lssN (i := i_3) (j := j_4) s rfl rfl) fun a s => ?_
  apply wN
  refine c_dec s rfl (fun hc5 => ?_) (fun hc5 => ?_)
  ·replace hg := br_t hg hc5
   apply wp_skip
   apply pN
   apply wp_block
   apply wQ
   obtain ⟨hk6, hg⟩ := chk_some hg
   obtain ⟨hk7, hg⟩ := chk_some hg
   obtain ⟨hk8, hg⟩ := chk_some hg
   apply wL
   refine mv s rfl rfl fun a s => ?_
   refine mv s rfl rfl fun a s => ?_
   refine qq s rfl (y_addN (i := i_3) (j := j_4) s rfl rfl (in64.2 (by omega))) fun a s => ?_
   refine qq s rfl (y_conv s rfl underlying3 underlying90 (inu64.2 (by omega))) fun a s => ?_
   refine qq s rfl (y_shrN (i := (i_3 + j_4)) (j := 1) s rfl rfl (by decide)) fun a s => ?_
   refine qq s rfl (y_conv s rfl underlying90 underlying3 (in64.2 (by omega))) fun a s => ?_
   refine asg s rfl rfl fun a s => ?_
   apply wN
   apply wQ
   obtain ⟨x10, hx10, hg⟩ := bind_some hg
   obtain ⟨r12, hr12, hg⟩ := bind_some hg
   apply wL
   refine mv s rfl rfl fun a s => ?_
   refine mv s rfl rfl fun a s => ?_
   refine mv s rfl rfl fun a s => ?_
   obtain ⟨p15, hep15, hpp15⟩ := SlR.elemX (s.ft 101 rfl) hx10
   refine qq s rfl (y_elem (sz := 2) (i := ((i_3 + j_4) / 2 ^ 1)) s rfl rfl underlying22 rfl hep15 rfl (lt_of_get hx10)) fun a s => ?_
   obtain ⟨hlq16, hmq16, csq16, hdq16, hcq16⟩ := hpp15
   obtain ⟨rfl, lq161⟩ := RWeight.open hdq16
   refine qq s rfl (y_ldp s rfl hlq16 hmq16 (by simpa using hcq16) underlying39 rfl rfl) fun a s => ?_
   refine mv s rfl rfl fun a s => ?_
   refine l_seq rfl (l_callFn (cap := cp21) (x := (x10, target_)) s rfl (s.ft 102 rfl) rfl rfl ⟨rfl, (by omega), (by omega)⟩ hr12 fun v17 a w hK hp s => ?_)
   obtain rfl := hp
   refine qq s rfl (y_lss s rfl rfl) fun a s => ?_
   apply wN
   refine c_dec s rfl (fun hc19 => ?_) (fun hc19 => ?_)
   ·replace hg := br_t hg hc19
    obtain ⟨hk20, hg⟩ := chk_some hg
    apply wL
    refine mv s rfl rfl fun a s => ?_
    refine qq s rfl (y_addN (i := ((i_3 + j_4) / 2 ^ 1)) (j := 1) s rfl rfl (in64.2 (by omega))) fun a s => ?_
    refine asg s rfl rfl fun a s => ?_
    apply wO
    refine p_inN ?_
    apply pN
    exact ⟨m1, Nat.lt_succ_self _, ⟨((i_3 + j_4) / 2 ^ 1 + 1), (j_4), hg, (s.sb rfl rfl rfl)⟩⟩
   replace hg := br_f hg hc19
   apply wL
   refine mv s rfl rfl fun a s => ?_
   refine asg s rfl rfl fun a s => ?_
   apply wO
   refine p_inN ?_
   apply pN
   exact ⟨m1, Nat.lt_succ_self _, ⟨(i_3), ((i_3 + j_4) / 2 ^ 1), hg, (s.sb rfl rfl rfl)⟩⟩
  replace hg := br_f hg hc5
  apply wp_exit
  refine p_then ?_
  refine p_then ?_
  refine p_in ?_
  apply pN
  exact ⟨(i_3), hg, (s.sb rfl rfl rfl)⟩
 clear s a; rintro a w ⟨i_2, hg, s⟩
 subst hk1
 apply wQ
 rcases Decidable.em (i_2 < ((x_).length)) with hs21 | hs21
 ·have hs21e := decide_eq_true hs21
  replace hg := br_t hg hs21
  have hmx22 := SlR.mx (s.ft 101 rfl)
  obtain ⟨x24, hx24, hg⟩ := bind_some hg
  obtain ⟨r26, hr26, hg⟩ := bind_some hg
  apply wL
  refine mv s rfl rfl fun a s => ?_
  refine mv s rfl rfl fun a s => ?_
  refine mv s rfl rfl fun a s => ?_
  refine qq s rfl (yl_b (y_lssN (i := i_2) (j := ((x_).length)) s rfl rfl) hs21e) fun a s => ?_
  refine mv s rfl rfl fun a s => ?_
  refine gm s rfl rfl fun a s => ?_
  refine gm s rfl rfl fun a s => ?_
  refine gm s rfl rfl fun a s => ?_
  obtain ⟨p29, hep29, hpp29⟩ := SlR.elemX (s.ft 101 rfl) hx24
  refine gy s rfl (y_elem (sz := 2) (i := i_2) s rfl rfl underlying22 rfl hep29 rfl (lt_of_get hx24)) fun a s => ?_
  obtain ⟨hlq30, hmq30, csq30, hdq30, hcq30⟩ := hpp29
  obtain ⟨rfl, lq301⟩ := RWeight.open hdq30
  refine gy s rfl (y_ldp s rfl hlq30 hmq30 (by simpa using hcq30) underlying39 rfl rfl) fun a s => ?_
  refine gm s rfl rfl fun a s => ?_
  refine gl s rfl (l_callFn (cap := cp21) (x := (x24, target_)) s rfl (s.ft 102 rfl) rfl rfl ⟨rfl, (by omega), (by omega)⟩ hr26 fun v31 a w hK hp s => ?_)
  obtain rfl := hp
  refine gy s rfl (y_eql s rfl rfl) fun a s => ?_
  refine qq s rfl (y_pick_t s rfl rfl) fun a s => ?_
  refine asg s rfl rfl fun a s => ?_
  refine asg s rfl rfl fun a s => ?_
  apply wN
  apply wp_ret
  obtain rfl := Option.some.inj hg
  refine fin2 (fn := Tryz.f42) s rfl (r_tmp s rfl) (r_tmp s rfl) ?_
  exact rfl
 have hs21e := decide_eq_false hs21
 replace hg := br_f hg hs21
 apply wL
 refine mv s rfl rfl fun a s => ?_
 refine mv s rfl rfl fun a s => ?_
 refine mv s rfl rfl fun a s => ?_
 refine qq s rfl (yl_b (y_lssN (i := i_2) (j := ((x_).length)) s rfl rfl) hs21e) fun a s => ?_
 refine mv s rfl rfl fun a s => ?_
 refine gn s rfl fun a s => ?_
 refine gn s rfl fun a s => ?_
 refine gn s rfl fun a s => ?_
 refine gn s rfl fun a s => ?_
 refine gn s rfl fun a s => ?_
 refine gn s rfl fun a s => ?_
 refine gn s rfl fun a s => ?_
 refine gn s rfl fun a s => ?_
 refine qq s rfl (y_pick_f s rfl rfl) fun a s => ?_
 refine asg s rfl rfl fun a s => ?_
 refine asg s rfl rfl fun a s => ?_
 apply wN
 apply wp_ret
 obtain rfl := Option.some.inj hg
 refine fin2 (fn := Tryz.f42) s rfl (r_tmp s rfl) (r_tmp s rfl) ?_
 exact rfl
set_option maxHeartbeats 400000 in
theorem c_cmp_isNaN_string (n : Nat) (M : Bs) (w0 : World) (hM : ∀ b, M b → b < w0.heap.size) (x_ : (List UInt8)) (lp01 : (x_).length ≤ 9223372036854775807) (r : Bool) (hg : cmp_isNaN_string n x_ = some r) :
    Calls Tryz.prog 50 [.string (bs (x_))].toArray w0 (Ret noB w0 fun v w => v = .bool (r)) := by
 unfold cmp_isNaN_string at hg
 refine enter M noB func50 rfl rfl hM ?_
 intro a s
 apply wR
 refine asg s rfl rfl fun a s => ?_
 apply wN
 apply wR
 refine mv s rfl rfl fun a s => ?_
 refine mv s rfl rfl fun a s => ?_
 refine qq s rfl (y_sne s rfl rfl) fun a s => ?_
 refine asg s rfl rfl fun a s => ?_
 apply wN
 apply wp_ret
 obtain rfl := Option.some.inj hg
 refine fin1 (fn := Tryz.f50) s rfl (r_tmp s rfl) ?_
 exact rfl
set_option maxHeartbeats 400000 in
theorem c_cmp_Compare_string (n : Nat) (M : Bs) (w0 : World) (hM : ∀ b, M b → b < w0.heap.size) (x_ : (List UInt8)) (lp01 : (x_).length ≤ 9223372036854775807) (y_ : (List UInt8)) (lp11 : (y_).length ≤ 9223372036854775807) (r : Int) (hg : cmp_Compare_string n x_ y_ = some r) :
    Calls Tryz.prog 28 [.string (bs (x_)), .string (bs (y_))].toArray w0 (Ret noB w0 fun v w => v = .int .i64 (r)) := by
 unfold cmp_Compare_string at hg
 refine enter M noB func28 rfl rfl hM ?_
 intro a s
 apply wR
 refine asg s rfl rfl fun a s => ?_
 apply wN
 apply wQ
 obtain ⟨r1, hr1, hg⟩ := bind_some hg
 apply wL
 refine mv s rfl rfl fun a s => ?_
 refine l_seq rfl (l_call (cap := []) s rfl func50 rfl (by kernel_rfl) rfl rfl (c_cmp_isNaN_string n _ _ s.lt x_ (by omega) r1 hr1) fun v4 a w hK hp s => ?_)
 obtain rfl := hp
 refine asg s rfl rfl fun a s => ?_
 apply wN
 apply wQ
 obtain ⟨r6, hr6, hg⟩ := bind_some hg
 apply wL
 refine mv s rfl rfl fun a s => ?_
 refine l_seq rfl (l_call (cap := []) s rfl func50 rfl (by kernel_rfl) rfl rfl (c_cmp_isNaN_string n _ _ s.lt y_ (by omega) r6 hr6) fun v9 a w hK hp s => ?_)
 obtain rfl := hp
 refine asg s rfl rfl fun a s => ?_
 apply wN
 apply wQ
 apply wR
 refine mv s rfl rfl fun a s => ?_
 apply wN
 refine c_cond s rfl (fun hc11 => ?_) (fun hc11 => ?_)
 ·replace hg := br_t hg hc11
  apply wQ
  apply wR
  refine mv s rfl rfl fun a s => ?_
  apply wN
  refine c_cond s rfl (fun hc12 => ?_) (fun hc12 => ?_)
  ·replace hg := br_t hg hc12
   apply wR
   refine asg s rfl rfl fun a s => ?_
   apply wN
   apply wp_ret
   refine p_thenR ?_
   refine p_thenR ?_
   obtain rfl := Option.some.inj hg
   refine fin1 (fn := Tryz.f28) s rfl (r_tmp s rfl) ?_
   exact rfl
  replace hg := br_n hg hc12
  apply wp_skip
  apply pN
  apply wR
  refine asg s rfl rfl fun a s => ?_
  apply wN
  apply wp_ret
  refine p_thenR ?_
  obtain rfl := Option.some.inj hg
  refine fin1 (fn := Tryz.f28) s rfl (r_tmp s rfl) ?_
  exact rfl
 replace hg := br_n hg hc11
 apply wp_skip
 apply pN
 apply wQ
 apply wR
 refine mv s rfl rfl fun a s => ?_
 apply wN
 refine c_cond s rfl (fun hc13 => ?_) (fun hc13 => ?_)
 ·replace hg := br_t hg hc13
  apply wR
  refine asg s rfl rfl fun a s => ?_
  apply wN
  apply wp_ret
  refine p_thenR ?_
  obtain rfl := Option.some.inj hg
  refine fin1 (fn := Tryz.f28) s rfl (r_tmp s rfl) ?_
  exact rfl
 replace hg := br_n hg hc13
 apply wp_skip
 apply pN
 apply wQ
 apply wR
 refine mv s rfl rfl fun a s => ?_
 refine mv s rfl rfl fun a s => ?_
 refine qq s rfl (y_slss s rfl rfl) fun a s => ?_
 apply wN
 refine c_cond s rfl (fun hc14 => ?_) (fun hc14 => ?_)
 ·replace hg := br_t hg hc14
  apply wR
  refine asg s rfl rfl fun a s => ?_
  apply wN
  apply wp_ret
  refine p_thenR ?_
  obtain rfl := Option.some.inj hg
  refine fin1 (fn := Tryz.f28) s rfl (r_tmp s rfl) ?_
  exact rfl
 replace hg := br_n hg hc14
 apply wp_skip
 apply pN
 apply wQ
 apply wR
 refine mv s rfl rfl fun a s => ?_
 refine mv s rfl rfl fun a s => ?_
 refine qq s rfl (y_sgtr s rfl rfl) fun a s => ?_
 apply wN
 refine c_cond s rfl (fun hc15 => ?_) (fun hc15 => ?_)
 ·replace hg := br_t hg hc15
  apply wR
  refine asg s rfl rfl fun a s => ?_
  apply wN
  apply wp_ret
  refine p_thenR ?_
  obtain rfl := Option.some.inj hg
  refine fin1 (fn := Tryz.f28) s rfl (r_tmp s rfl) ?_
  exact rfl
 replace hg := br_n hg hc15
 apply wp_skip
 apply pN
 apply wR
 refine asg s rfl rfl fun a s => ?_
 apply wN
 apply wp_ret
 obtain rfl := Option.some.inj hg
 refine fin1 (fn := Tryz.f28) s rfl (r_tmp s rfl) ?_
 exact rfl
set_option maxHeartbeats 400000 in
theorem c_model_weight_1 (n : Nat) (M : Bs) (w0 : World) (hM : ∀ b, M b → b < w0.heap.size) (w_ : Weight) (lp01 : (w_.Feature).length ≤ 9223372036854775807) (s_ : (List UInt8)) (lp11 : (s_).length ≤ 9223372036854775807) (r : Int) (hg : model_weight_1 n w_ s_ = some r) :
    Calls Tryz.prog 43 [.agg #[.string (bs (w_.Feature)), .int .i64 (w_.Value)], .string (bs (s_))].toArray w0 (Ret noB w0 fun v w => v = .int .i64 (r)) := by
 unfold model_weight_1 at hg
 refine enter M noB func43 rfl rfl hM ?_
 intro a s
 apply wR
 refine l_seq rfl (l_box (zs := [vT (w_.Feature), vI (w_.Value)]) s 1000 rfl rfl rfl rfl fun b2 a w hb hK s => ?_)
 refine asg s rfl rfl fun a s => ?_
 apply wN
 apply wQ
 obtain ⟨r3, hr3, hg⟩ := bind_some hg
 apply wL
 refine qq s rfl (y_boxField (o' := 0) s rfl underlying39 rfl rfl rfl) fun a s => ?_
 refine qq s rfl (y_loadBox1 (kk := 1000) s rfl rfl rfl underlying9 rfl) fun a s => ?_
 refine mv s rfl rfl fun a s => ?_
 refine l_seq rfl (l_call (cap := []) s rfl func28 rfl (by kernel_rfl) rfl rfl (c_cmp_Compare_string n _ _ s.lt w_.Feature (by omega) s_ (by omega) r3 hr3) fun v6 a w hK hp s => ?_)
 obtain rfl := hp
 refine asg s rfl rfl fun a s => ?_
 apply wN
 apply wp_ret
 obtain rfl := Option.some.inj hg
 refine fin1 (fn := Tryz.f43) s rfl (r_tmp s rfl) ?_
 exact rfl
set_option maxHeartbeats 400000 in
theorem c_model_weight (n : Nat) (M : Bs) (w0 : World) (hM : ∀ b, M b → b < w0.heap.size) (m_ : Model) (Ap01 : Option Addr) (cp01 : Nat) (hp01 : SlR RWeight M w0 Ap01 (m_.Weights).length cp01 (m_.Weights)) (s_ : (List UInt8)) (lp11 : (s_).length ≤ 9223372036854775807) (r : Int) (hg : model_weight n m_ s_ = some r) :
    Calls Tryz.prog 24 [.agg #[.slice (Ap01) ((m_.Weights).length) (cp01)], .string (bs (s_))].toArray w0 (Ret noB w0 fun v w => v = .int .i64 (r)) := by
 unfold model_weight at hg
 refine enter M noB func24 rfl rfl hM ?_
 intro a s
 replace s := s.es 101 hp01
 apply wR
 refine l_seq rfl (l_box (zs := [sl Ap01 (m_.Weights) cp01]) s 1000 rfl rfl rfl rfl fun b2 a w hb hK s => ?_)
 refine asg s rfl rfl fun a s => ?_
 apply wN
 apply wQ
 obtain ⟨r3, hr3, hg⟩ := bind_some hg
 apply wL
 refine qq s rfl (y_boxField (o' := 0) s rfl underlying24 rfl rfl rfl) fun a s => ?_
 refine qq s rfl (y_loadBox1 (kk := 1000) s rfl rfl rfl underlying22 rfl) fun a s => ?_
 refine mv s rfl rfl fun a s => ?_
 refine l_seq rfl (l_call (cap := []) s rfl func42 rfl (by kernel_rfl) rfl rfl (c_slices_BinarySearchFunc_string n _ _ s.lt m_.Weights (Ap01) (cp01) (s.ft 101 rfl) s_ (by omega) (fun p => model_weight_1 n p.1 p.2) (43) ([]) ⟨⟨_, _, func43, rfl, by kernel_rfl⟩, fun M1 w1 hk hm hlt vs x r hp hr => by obtain ⟨rfl, la1, lb1⟩ := hp; exact c_model_weight_1 n M1 w1 hlt (x.1) la1 (x.2) lb1 r hr⟩ r3 hr3) fun v6 a w hK hp s => ?_)
 obtain rfl := hp
 refine mv s rfl rfl fun a s => ?_
 refine qq s rfl (y_extract s rfl rfl) fun a s => ?_
 refine qq s rfl (y_extract s rfl rfl) fun a s => ?_
 refine asg s rfl rfl fun a s => ?_
 refine asg s rfl rfl fun a s => ?_
 apply wN
 apply wQ
 apply wR
 refine mv s rfl rfl fun a s => ?_
 refine qq s rfl (y_not s rfl) fun a s => ?_
 apply wN
 refine c_cond s rfl (fun hc8 => ?_) (fun hc8 => ?_)
 ·replace hg := br_t hg hc8
  apply wR
  refine asg s rfl rfl fun a s => ?_
  apply wN
  apply wp_ret
  refine p_thenR ?_
  obtain rfl := Option.some.inj hg
  refine fin1 (fn := Tryz.f24) s rfl (r_tmp s rfl) ?_
  exact rfl
 replace hg := br_n hg hc8
 apply wp_skip
 apply pN
 apply wQ
 obtain ⟨x10, hx10, hg⟩ := bind_some hg
 apply wL
 refine qq s rfl (y_boxField (o' := 0) s rfl underlying24 rfl rfl rfl) fun a s => ?_
 refine qq s rfl (y_loadBox1 (kk := 1000) s rfl rfl rfl underlying22 rfl) fun a s => ?_
 refine mv s rfl rfl fun a s => ?_
 obtain ⟨p12, hep12, hpp12⟩ := SlR.elemX (s.ft 101 rfl) (ix_some hx10).1
 refine qq s rfl (y_elem (sz := 2) (i := ((r3.1).toNat)) s rfl rfl underlying22 rfl hep12 (ix_some hx10).2.1 (lt_of_get (ix_some hx10).1)) fun a s => ?_
 refine qq s rfl (y_ptrField (o' := 1) s rfl underlying39 rfl rfl rfl) fun a s => ?_
 obtain ⟨hlq13, hmq13, csq13, hdq13, hcq13⟩ := hpp12
 obtain ⟨rfl, lq131⟩ := RWeight.open hdq13
 refine qq s rfl (y_ldp1 s rfl hlq13 hmq13 (hcq13 1 _ rfl) underlying3 rfl) fun a s => ?_
 refine asg s rfl rfl fun a s => ?_
 apply wN
 apply wp_ret
 obtain rfl := Option.some.inj hg
 refine fin1 (fn := Tryz.f24) s rfl (r_tmp s rfl) ?_
 exact rfl
set_option maxHeartbeats 400000 in
theorem c_model_Score (n : Nat) (M : Bs) (w0 : World) (hM : ∀ b, M b → b < w0.heap.size) (m_ : Model) (Ap01 : Option Addr) (cp01 : Nat) (hp01 : SlR RWeight M w0 Ap01 (m_.Weights).length cp01 (m_.Weights)) (d_ : Deriv) (Ap15 : Option Addr) (cp15 : Nat) (lp12 : (d_.Name).length ≤ 9223372036854775807) (hp15 : SlR RDeriv M w0 Ap15 (d_.Kids).length cp15 (d_.Kids)) (r : Int) (hg : model_Score n m_ d_ = some r) :
    Calls Tryz.prog 15 [.agg #[.slice (Ap01) ((m_.Weights).length) (cp01)], .agg #[.int .i64 (d_.Kind), .string (bs (d_.Name)), .int .i64 (d_.From), .int .i64 (d_.To), .slice (Ap15) ((d_.Kids).length) (cp15)]].toArray w0 (Ret noB w0 fun v w => v = .int .i64 (r)) := by
 unfold model_Score at hg
 refine enter M noB func15 rfl rfl hM ?_
 intro a s
 replace s := s.es 101 hp01
 replace s := s.es 102 hp15
 apply wR
 refine l_seq rfl (l_box (zs := [sl Ap01 (m_.Weights) cp01]) s 1000 rfl rfl rfl rfl fun b3 a w hb hK s => ?_)
 refine l_seq rfl (l_box (zs := [vI (d_.Kind), vT (d_.Name), vI (d_.From), vI (d_.To), sl Ap15 (d_.Kids) cp15]) s 1001 rfl rfl rfl rfl fun b4 a w hb hK s => ?_)
 refine asg s rfl rfl fun a s => ?_
 apply wN
 apply wR
 refine asg s rfl rfl fun a s => ?_
 apply wN
 apply wQ
 apply wQ
 obtain ⟨r5, hr5, hg⟩ := bind_some hg
 apply wL
 refine qq s rfl (y_loadAll (kk := 1001) s rfl rfl underlying42 rfl rfl) fun a s => ?_
 refine l_seq rfl (l_call (cap := []) s rfl func13 rfl (by kernel_rfl) rfl rfl (c_model_Features n _ _ s.lt d_ (Ap15) (cp15) (by omega) (s.ft 102 rfl) r5 hr5) fun v8 a w hK hp s => ?_)
 obtain ⟨Au9a1, cu9a1, rfl, hu9a1⟩ := hp
 replace s := s.ns 104 hu9a1
 refine qq s rfl (y_lenSlice s rfl underlying44) fun a s => ?_
 refine mv s rfl rfl fun a s => ?_
 apply wN
 apply wp_block
 refine c_loop (σ := Nat) (fun m1 a w => ∃ (n_10 : Int) (t_11 : Nat), model_Score_L0 n m_ r5 m1 n_10 t_11 = some r ∧ St (⟨Tryz.f15.ntmps, M, noB, w0⟩ : Ctx) [(2, vP b3 0), (5, vI n_10), (9, sl Au9a1 (r5) cu9a1), (10, vI ((((r5).length : Nat) : Int))), (11, vI (((t_11 : Nat) : Int)))] [(1000, Ob.box b3 [sl Ap01 (m_.Weights) cp01] 24)] [(101, slF RWeight (Ap01) ((m_.Weights).length) (cp01) (m_.Weights)), (104, slF Rep.str (Au9a1) ((r5).length) (cu9a1) (r5))] a w) (fun m1 => m1) n ⟨(0), (0), hg, (s.sb rfl rfl rfl)⟩ ?_
 clear s a; rintro m1 a w ⟨n_10, t_11, hg, s⟩
 rcases m1 with _ | m1
 ·rw [model_Score_L0] at hg; cases hg
 rw [model_Score_L0] at hg
 apply wR
 refine qq s rfl (y_lssN (i := t_11) (j := ((r5).length)) s rfl rfl) fun a s => ?_
 apply wN
 apply wQ
 refine c_dec s rfl (fun hc12 => ?_) (fun hc12 => ?_)
 ·replace hg := br_t hg hc12
  have hmx13 := SlR.mx (s.ft 104 rfl)
  apply wp_skip
  apply pN
  apply wQ
  apply wp_block
  apply wQ
  obtain ⟨x15, hx15, hg⟩ := bind_some hg
  apply wL
  obtain ⟨p17, hep17, hpp17⟩ := SlR.elemX (s.ft 104 rfl) hx15
  refine qq s rfl (y_elem (sz := 1) (i := t_11) s rfl rfl underlying44 rfl hep17 rfl (lt_of_get hx15)) fun a s => ?_
  obtain ⟨hlq18, hmq18, csq18, hdq18, hcq18⟩ := hpp17
  obtain ⟨rfl, lq181⟩ := hdq18
  refine qq s rfl (y_ldp1 s rfl hlq18 hmq18 (hcq18 0 _ rfl) underlying9 rfl) fun a s => ?_
  refine asg s rfl rfl fun a s => ?_
  apply wN
  obtain ⟨r19, hr19, hg⟩ := bind_some hg
  obtain ⟨hk22, hg⟩ := chk_some hg
  apply wL
  refine mv s rfl rfl fun a s => ?_
  refine qq s rfl (y_loadAll (kk := 1000) s rfl rfl underlying24 rfl rfl) fun a s => ?_
  refine mv s rfl rfl fun a s => ?_
  refine l_seq rfl (l_call (cap := []) s rfl func24 rfl (by kernel_rfl) rfl rfl (c_model_weight n _ _ s.lt m_ (Ap01) (cp01) (s.ft 101 rfl) x15 (by omega) r19 hr19) fun v23 a w hK hp s => ?_)
  obtain rfl := hp
  refine qq s rfl (y_add s rfl rfl (in64.2 hk22)) fun a s => ?_
  refine asg s rfl rfl fun a s => ?_
  apply wO
  refine p_inN ?_
  apply pN
  apply wL
  refine qq s rfl (y_addN (i := t_11) (j := 1) s rfl rfl (in64.2 (by omega))) fun a s => ?_
  refine mv s rfl rfl fun a s => ?_
  apply wN
  exact ⟨m1, Nat.lt_succ_self _, ⟨(n_10 + r19), (t_11 + 1), hg, (s.sb rfl rfl rfl)⟩⟩
 replace hg := br_f hg hc12
 apply wp_exit
 refine p_then ?_
 refine p_then ?_
 refine p_in ?_
 apply pN
 apply wR
 refine mv s rfl rfl fun a s => ?_
 refine asg s rfl rfl fun a s => ?_
 apply wN
 apply wp_ret
 obtain rfl := Option.some.inj hg
 refine fin1 (fn := Tryz.f15) s rfl (r_tmp s rfl) ?_
 exact rfl
set_option maxHeartbeats 400000 in
theorem c_cmp_Or_int (n : Nat) (M : Bs) (w0 : World) (hM : ∀ b, M b → b < w0.heap.size) (vals_ : (List Int)) (Ap01 : Option Addr) (cp01 : Nat) (hp01 : SlR (Rep.num .i64) M w0 Ap01 (vals_).length cp01 (vals_)) (r : Int) (hg : cmp_Or_int n vals_ = some r) :
    Calls Tryz.prog 26 [.slice (Ap01) ((vals_).length) (cp01)].toArray w0 (Ret noB w0 fun v w => v = .int .i64 (r)) := by
 unfold cmp_Or_int at hg
 refine enter M noB func26 rfl rfl hM ?_
 intro a s
 replace s := s.es 101 hp01
 apply wR
 refine asg s rfl rfl fun a s => ?_
 apply wN
 apply wR
 refine asg s rfl rfl fun a s => ?_
 apply wN
 apply wQ
 apply wR
 refine mv s rfl rfl fun a s => ?_
 refine qq s rfl (y_lenSlice s rfl underlying84) fun a s => ?_
 refine mv s rfl rfl fun a s => ?_
 apply wN
 apply wp_block
 refine c_loop (σ := Nat) (fun m1 a w => ∃ (t_1 : Nat), cmp_Or_int_L0 n vals_ m1 t_1 = some r ∧ St (⟨Tryz.f26.ntmps, M, noB, w0⟩ : Ctx) [(3, vI 0), (6, sl Ap01 (vals_) cp01), (7, vI ((((vals_).length : Nat) : Int))), (8, vI (((t_1 : Nat) : Int)))] [] [(101, slF (Rep.num .i64) (Ap01) ((vals_).length) (cp01) (vals_))] a w) (fun m1 => m1) n ⟨(0), hg, (s.sb rfl rfl rfl)⟩ ?_
 clear s a; rintro m1 a w ⟨t_1, hg, s⟩
 rcases m1 with _ | m1
 ·rw [cmp_Or_int_L0] at hg; cases hg
 rw [cmp_Or_int_L0] at hg
 apply wR
 refine qq s rfl (y_lssN (i := t_1) (j := ((vals_).length)) s rfl rfl) fun a s => ?_
 apply wN
 apply wQ
 refine c_dec s rfl (fun hc2 => ?_) (fun hc2 => ?_)
 ·replace hg := br_t hg hc2
  have hmx3 := SlR.mx (s.ft 101 rfl)
  apply wp_skip
  apply pN
  apply wQ
  apply wp_block
  apply wQ
  obtain ⟨x5, hx5, hg⟩ := bind_some hg
  apply wL
  obtain ⟨p7, hep7, hpp7⟩ := SlR.elemX (s.ft 101 rfl) hx5
  refine qq s rfl (y_elem (sz := 1) (i := t_1) s rfl rfl underlying84 rfl hep7 rfl (lt_of_get hx5)) fun a s => ?_
  obtain ⟨hlq8, hmq8, csq8, hdq8, hcq8⟩ := hpp7
  obtain rfl := hdq8
  refine qq s rfl (y_ldp1 s rfl hlq8 hmq8 (hcq8 0 _ rfl) underlying3 rfl) fun a s => ?_
  refine asg s rfl rfl fun a s => ?_
  apply wN
  apply wR
  refine mv s rfl rfl fun a s => ?_
  refine mv s rfl rfl fun a s => ?_
  refine qq s rfl (y_neq s rfl rfl) fun a s => ?_
  apply wN
  refine c_dec s rfl (fun hc9 => ?_) (fun hc9 => ?_)
  ·replace hg := br_t hg hc9
   apply wR
   refine mv s rfl rfl fun a s => ?_
   refine asg s rfl rfl fun a s => ?_
   apply wN
   apply wp_ret
   refine p_inR ?_
   refine p_thenR ?_
   refine p_thenR ?_
   refine p_inR ?_
   refine p_thenR ?_
   obtain rfl := Option.some.inj hg
   refine fin1 (fn := Tryz.f26) s rfl (r_tmp s rfl) ?_
   exact rfl
  replace hg := br_f hg hc9
  apply wp_skip
  refine p_inN ?_
  apply pN
  apply wL
  refine qq s rfl (y_addN (i := t_1) (j := 1) s rfl rfl (in64.2 (by omega))) fun a s => ?_
  refine mv s rfl rfl fun a s => ?_
  apply wN
  exact ⟨m1, Nat.lt_succ_self _, ⟨(t_1 + 1), hg, (s.sb rfl rfl rfl)⟩⟩
 replace hg := br_f hg hc2
 apply wp_exit
 refine p_then ?_
 refine p_then ?_
 refine p_in ?_
 apply pN
 apply wR
 refine mv s rfl rfl fun a s => ?_
 refine asg s rfl rfl fun a s => ?_
 apply wN
 apply wp_ret
 obtain rfl := Option.some.inj hg
 refine fin1 (fn := Tryz.f26) s rfl (r_tmp s rfl) ?_
 exact rfl
set_option maxHeartbeats 400000 in
theorem c_cmp_isNaN_int (n : Nat) (M : Bs) (w0 : World) (hM : ∀ b, M b → b < w0.heap.size) (x_ : Int) (r : Bool) (hg : cmp_isNaN_int n x_ = some r) :
    Calls Tryz.prog 49 [.int .i64 (x_)].toArray w0 (Ret noB w0 fun v w => v = .bool (r)) := by
 unfold cmp_isNaN_int at hg
 refine enter M noB func49 rfl rfl hM ?_
 intro a s
 apply wR
 refine asg s rfl rfl fun a s => ?_
 apply wN
 apply wR
 refine mv s rfl rfl fun a s => ?_
 refine mv s rfl rfl fun a s => ?_
 refine qq s rfl (y_neq s rfl rfl) fun a s => ?_
 refine asg s rfl rfl fun a s => ?_
 apply wN
 apply wp_ret
 obtain rfl := Option.some.inj hg
 refine fin1 (fn := Tryz.f49) s rfl (r_tmp s rfl) ?_
 exact rfl
set_option maxHeartbeats 400000 in
theorem c_cmp_Compare_int (n : Nat) (M : Bs) (w0 : World) (hM : ∀ b, M b → b < w0.heap.size) (x_ : Int) (y_ : Int) (r : Int) (hg : cmp_Compare_int n x_ y_ = some r) :
    Calls Tryz.prog 27 [.int .i64 (x_), .int .i64 (y_)].toArray w0 (Ret noB w0 fun v w => v = .int .i64 (r)) := by
 unfold cmp_Compare_int at hg
 refine enter M noB func27 rfl rfl hM ?_
 intro a s
 apply wR
 refine asg s rfl rfl fun a s => ?_
 apply wN
 apply wQ
 obtain ⟨r1, hr1, hg⟩ := bind_some hg
 apply wL
 refine mv s rfl rfl fun a s => ?_
 refine l_seq rfl (l_call (cap := []) s rfl func49 rfl (by kernel_rfl) rfl rfl (c_cmp_isNaN_int n _ _ s.lt x_ r1 hr1) fun v4 a w hK hp s => ?_)
 obtain rfl := hp
 refine asg s rfl rfl fun a s => ?_
 apply wN
 apply wQ
 obtain ⟨r6, hr6, hg⟩ := bind_some hg
 apply wL
 refine mv s rfl rfl fun a s => ?_
 refine l_seq rfl (l_call (cap := []) s rfl func49 rfl (by kernel_rfl) rfl rfl (c_cmp_isNaN_int n _ _ s.lt y_ r6 hr6) fun v9 a w hK hp s => ?_)
 obtain rfl := hp
 refine asg s rfl rfl fun a s => ?_
 apply wN
 apply wQ
 apply wR
 refine mv s rfl rfl fun a s => ?_
 apply wN
 refine c_cond s rfl (fun hc11 => ?_) (fun hc11 => ?_)
 ·replace hg := br_t hg hc11
  apply wQ
  apply wR
  refine mv s rfl rfl fun a s => ?_
  apply wN
  refine c_cond s rfl (fun hc12 => ?_) (fun hc12 => ?_)
  ·replace hg := br_t hg hc12
   apply wR
   refine asg s rfl rfl fun a s => ?_
   apply wN
   apply wp_ret
   refine p_thenR ?_
   refine p_thenR ?_
   obtain rfl := Option.some.inj hg
   refine fin1 (fn := Tryz.f27) s rfl (r_tmp s rfl) ?_
   exact rfl
  replace hg := br_n hg hc12
  apply wp_skip
  apply pN
  apply wR
  refine asg s rfl rfl fun a s => ?_
  apply wN
  apply wp_ret
  refine p_thenR ?_
  obtain rfl := Option.some.inj hg
  refine fin1 (fn := Tryz.f27) s rfl (r_tmp s rfl) ?_
  exact rfl
 replace hg := br_n hg hc11
 apply wp_skip
 apply pN
 apply wQ
 apply wR
 refine mv s rfl rfl fun a s => ?_
 apply wN
 refine c_cond s rfl (fun hc13 => ?_) (fun hc13 => ?_)
 ·replace hg := br_t hg hc13
  apply wR
  refine asg s rfl rfl fun a s => ?_
  apply wN
  apply wp_ret
  refine p_thenR ?_
  obtain rfl := Option.some.inj hg
  refine fin1 (fn := Tryz.f27) s rfl (r_tmp s rfl) ?_
  exact rfl
 replace hg := br_n hg hc13
 apply wp_skip
 apply pN
 apply wQ
 apply wR
 refine mv s rfl rfl fun a s => ?_
 refine mv s rfl rfl fun a s => ?_
 refine qq s rfl (y_lss s rfl rfl) fun a s => ?_
 apply wN
 refine c_dec s rfl (fun hc14 => ?_) (fun hc14 => ?_)
 ·replace hg := br_t hg hc14
  apply wR
  refine asg s rfl rfl fun a s => ?_
  apply wN
  apply wp_ret
  refine p_thenR ?_
  obtain rfl := Option.some.inj hg
  refine fin1 (fn := Tryz.f27) s rfl (r_tmp s rfl) ?_
  exact rfl
 replace hg := br_f hg hc14
 apply wp_skip
 apply pN
 apply wQ
 apply wR
 refine mv s rfl rfl fun a s => ?_
 refine mv s rfl rfl fun a s => ?_
 refine qq s rfl (y_gtr s rfl rfl) fun a s => ?_
 apply wN
 refine c_dec s rfl (fun hc15 => ?_) (fun hc15 => ?_)
 ·replace hg := br_t hg hc15
  apply wR
  refine asg s rfl rfl fun a s => ?_
  apply wN
  apply wp_ret
  refine p_thenR ?_
  obtain rfl := Option.some.inj hg
  refine fin1 (fn := Tryz.f27) s rfl (r_tmp s rfl) ?_
  exact rfl
 replace hg := br_f hg hc15
 apply wp_skip
 apply pN
 apply wR
 refine asg s rfl rfl fun a s => ?_
 apply wN
 apply wp_ret
 obtain rfl := Option.some.inj hg
 refine fin1 (fn := Tryz.f27) s rfl (r_tmp s rfl) ?_
 exact rfl
end Go.Proofs.YthgdajiipojnoaaGreatDoor
