/- Chapter 37: the walks, part 4 -/
import Derived.Test.YthgdajiipojnoaaGreatDoorW3
namespace Go.Proofs.YthgdajiipojnoaaGreatDoor
open Go.Gl Go.RowKit Tryz
set_option linter.unusedVariables false
set_option linter.unusedSimpArgs false
set_option maxRecDepth 4000

set_option maxHeartbeats 400000 in
theorem c_model_Train (n : Nat) (M : Bs) (w0 : World) (hM : ∀ b, M b → b < w0.heap.size) (t_ : Model) (Ap01 : Option Addr) (cp01 : Nat) (hp01 : SlR RWeight M w0 Ap01 (t_.Weights).length cp01 (t_.Weights)) (t_' : (List Judged)) (Ap11 : Option Addr) (cp11 : Nat) (hp11 : SlR RJudged M w0 Ap11 (t_').length cp11 (t_')) (t_'' : Int) (r : (Model × Int)) (hg : model_Train n t_ t_' t_'' = some r) :
    Calls Tryz.prog 7 [.agg #[.slice (Ap01) ((t_.Weights).length) (cp01)], .slice (Ap11) ((t_').length) (cp11), .int .i64 (t_'')].toArray w0 (Ret noB w0 fun v w => ∃ (Aa1 : Option Addr), ∃ (ca1 : Nat), v = .tuple #[.agg #[.slice (Aa1) ((r.1.Weights).length) (ca1)], .int .i64 (r.2)] ∧ (SlR RWeight M w Aa1 (r.1.Weights).length ca1 (r.1.Weights))) := by
 unfold model_Train at hg
 refine enter M noB func7 rfl rfl hM ?_
 intro a s
 replace s := s.es 101 hp01
 replace s := s.es 102 hp11
 apply wR
 refine l_seq rfl (l_box (zs := [sl Ap01 (t_.Weights) cp01]) s 1000 rfl rfl rfl rfl fun b3 a w hb hK s => ?_)
 refine l_seq rfl (l_alloc (zs := [.slice (none) (0) (0)]) s 1001 rfl rfl rfl rfl fun b4 a w hb hK s => ?_)
 refine asg s rfl rfl fun a s => ?_
 apply wN
 apply wQ
 apply wQ
 obtain ⟨k5, hg, hk5⟩ := jn_some hg
 refine c_post (fun a w => ∃ (t_6 : Bool), k5 t_6 = some r ∧ St (⟨Tryz.f7.ntmps, M, noB, w0⟩ : Ctx) [(1, sl Ap11 (t_') cp11), (2, vI (t_'')), (3, vP b3 0), (6, vP b4 0), (24, .bool (t_6))] [(1000, Ob.box b3 [sl Ap01 (t_.Weights) cp01] 24), (1001, Ob.box b4 [.slice (none) (0) (0)] 24)] [(101, slF RWeight (Ap01) ((t_.Weights).length) (cp01) (t_.Weights)), (102, slF RJudged (Ap11) ((t_').length) (cp11) (t_'))] a w) ?_ ?_
 ·rcases Decidable.em (t_'' < 0) with hs7 | hs7
  ·have hs7e := decide_eq_true hs7
   replace hg := br_t hg hs7
   apply wL
   refine mv s rfl rfl fun a s => ?_
   refine qq s rfl (yl_b (y_lss s rfl rfl) hs7e) fun a s => ?_
   refine mv s rfl rfl fun a s => ?_
   refine gn s rfl fun a s => ?_
   refine gn s rfl fun a s => ?_
   refine qq s rfl (y_pick_t s rfl rfl) fun a s => ?_
   apply wN
   exact ⟨(true), hg, (s.sb rfl rfl rfl)⟩
  have hs7e := decide_eq_false hs7
  replace hg := br_f hg hs7
  apply wL
  refine mv s rfl rfl fun a s => ?_
  refine qq s rfl (yl_b (y_lss s rfl rfl) hs7e) fun a s => ?_
  refine mv s rfl rfl fun a s => ?_
  refine gm s rfl rfl fun a s => ?_
  refine gy s rfl (y_gtr s rfl rfl) fun a s => ?_
  refine qq s rfl (y_pick_f s rfl rfl) fun a s => ?_
  apply wN
  exact ⟨(decide ((16 : Int) < t_'')), hg, (s.sb rfl rfl rfl)⟩
 clear s a; rintro a w ⟨t_6, hg, s⟩
 subst hk5
 refine c_cond s rfl (fun hc8 => ?_) (fun hc8 => ?_)
 ·replace hg := br_t hg hc8
  apply wR
  refine qq s rfl (y_build (parts := []) (ps := []) (cells := #[.slice (none) (0) (0)]) s rfl (by kernel_rfl)) fun a s => ?_
  refine l_seq rfl (l_store (n := 1) (cs' := [.slice (none) (0) (0)]) s 1001 rfl rfl rfl rfl rfl rfl rfl rfl ?_); clear s; intro w hK s; clear hK
  refine asg s rfl rfl fun a s => ?_
  apply wN
  apply wp_ret
  refine p_thenR ?_
  obtain rfl := Option.some.inj hg
  refine fin2 (fn := Tryz.f7) s rfl (r_cell (kk := 1001) (n := 1) (vs := [.slice (none) (0) (0)]) s rfl rfl underlying24 rfl rfl rfl rfl) (r_tmp s rfl) ?_
  exact ⟨(none), (0), rfl, (SlR.nil_ _ _ _)⟩
 replace hg := br_n hg hc8
 apply wp_skip
 apply pN
 apply wQ
 apply wR
 refine mv s rfl rfl fun a s => ?_
 refine qq s rfl (y_lenSlice s rfl underlying25) fun a s => ?_
 refine mv s rfl rfl fun a s => ?_
 apply wN
 obtain ⟨k9, hg, hk9⟩ := jn_some hg
 refine c_post (fun a w => k9 = some r ∧ St (⟨Tryz.f7.ntmps, M, noB, w0⟩ : Ctx) [(1, sl Ap11 (t_') cp11), (2, vI (t_'')), (3, vP b3 0), (6, vP b4 0)] [(1000, Ob.box b3 [sl Ap01 (t_.Weights) cp01] 24), (1001, Ob.box b4 [.slice (none) (0) (0)] 24)] [(101, slF RWeight (Ap01) ((t_.Weights).length) (cp01) (t_.Weights)), (102, slF RJudged (Ap11) ((t_').length) (cp11) (t_'))] a w) ?_ ?_
 ·apply wp_block
  refine c_loop (σ := Nat) (fun m1 a w => ∃ (t_10 : Nat), model_Train_L0 n t_' k9 m1 t_10 = some r ∧ St (⟨Tryz.f7.ntmps, M, noB, w0⟩ : Ctx) [(1, sl Ap11 (t_') cp11), (2, vI (t_'')), (3, vP b3 0), (6, vP b4 0), (26, sl Ap11 (t_') cp11), (27, vI ((((t_').length : Nat) : Int))), (28, vI (((t_10 : Nat) : Int)))] [(1000, Ob.box b3 [sl Ap01 (t_.Weights) cp01] 24), (1001, Ob.box b4 [.slice (none) (0) (0)] 24)] [(101, slF RWeight (Ap01) ((t_.Weights).length) (cp01) (t_.Weights)), (102, slF RJudged (Ap11) ((t_').length) (cp11) (t_'))] a w) (fun m1 => m1) n ⟨(0), hg, (s.sb rfl rfl rfl)⟩ ?_
  clear s a; rintro m1 a w ⟨t_10, hg, s⟩
  rcases m1 with _ | m1
  ·rw [model_Train_L0] at hg; cases hg
  rw [model_Train_L0] at hg
  apply wR
  refine qq s rfl (y_lssN (i := t_10) (j := ((t_').length)) s rfl rfl) fun a s => ?_
  apply wN
  apply wQ
  refine c_dec s rfl (fun hc11 => ?_) (fun hc11 => ?_)
  ·replace hg := br_t hg hc11
   have hmx12 := SlR.mx (s.ft 102 rfl)
   apply wp_skip
   apply pN
   apply wQ
   apply wp_block
   apply wQ
   obtain ⟨x14, hx14, hg⟩ := bind_some hg
   apply wL
   obtain ⟨p17, hep17, hpp17⟩ := SlR.elemX (s.ft 102 rfl) hx14
   refine qq s rfl (y_elem (sz := 2) (i := t_10) s rfl rfl underlying25 rfl hep17 rfl (lt_of_get hx14)) fun a s => ?_
   obtain ⟨hlq18, hmq18, csq18, hdq18, hcq18⟩ := hpp17
   obtain ⟨Aq181, cq181, rfl, hq181⟩ := RJudged.open hdq18
   replace s := s.ns 104 hq181
   refine qq s rfl (y_ldp s rfl hlq18 hmq18 (by simpa using hcq18) underlying37 rfl rfl) fun a s => ?_
   refine l_seq rfl (l_alloc (zs := [.slice (none) (0) (0), vI 0]) s 1502 rfl rfl rfl rfl fun b19 a w hb hK s => ?_)
   refine l_seq rfl (l_store (n := 2) (cs' := [sl Aq181 (x14.Readings) cq181, vI (x14.Gold)]) s 1502 rfl rfl rfl rfl rfl rfl rfl rfl ?_); clear s; intro w hK s; clear hK
   apply wN
   apply wQ
   obtain ⟨k20, hg, hk20⟩ := jn_some hg
   refine c_post (fun a w => ∃ (t_21 : Bool), k20 t_21 = some r ∧ St (⟨Tryz.f7.ntmps, M, noB, w0⟩ : Ctx) [(1, sl Ap11 (t_') cp11), (2, vI (t_'')), (3, vP b3 0), (6, vP b4 0), (26, sl Ap11 (t_') cp11), (27, vI ((((t_').length : Nat) : Int))), (28, vI (((t_10 : Nat) : Int))), (42, .bool (t_21))] [(1000, Ob.box b3 [sl Ap01 (t_.Weights) cp01] 24), (1001, Ob.box b4 [.slice (none) (0) (0)] 24)] [(101, slF RWeight (Ap01) ((t_.Weights).length) (cp01) (t_.Weights)), (102, slF RJudged (Ap11) ((t_').length) (cp11) (t_'))] a w) ?_ ?_
   ·rcases Decidable.em (x14.Gold < 0) with hs22 | hs22
    ·have hs22e := decide_eq_true hs22
     replace hg := br_t hg hs22
     apply wL
     refine qq s rfl (y_boxField (o' := 1) s rfl underlying37 rfl rfl rfl) fun a s => ?_
     refine qq s rfl (y_loadBox1 (kk := 1502) s rfl rfl rfl underlying3 rfl) fun a s => ?_
     refine qq s rfl (yl_b (y_lss s rfl rfl) hs22e) fun a s => ?_
     refine mv s rfl rfl fun a s => ?_
     refine gn s rfl fun a s => ?_
     refine gn s rfl fun a s => ?_
     refine gn s rfl fun a s => ?_
     refine gn s rfl fun a s => ?_
     refine gn s rfl fun a s => ?_
     refine gn s rfl fun a s => ?_
     refine qq s rfl (y_pick_t s rfl rfl) fun a s => ?_
     apply wN
     exact ⟨(true), hg, (s.sb rfl rfl rfl)⟩
    have hs22e := decide_eq_false hs22
    replace hg := br_f hg hs22
    apply wL
    refine qq s rfl (y_boxField (o' := 1) s rfl underlying37 rfl rfl rfl) fun a s => ?_
    refine qq s rfl (y_loadBox1 (kk := 1502) s rfl rfl rfl underlying3 rfl) fun a s => ?_
    refine qq s rfl (yl_b (y_lss s rfl rfl) hs22e) fun a s => ?_
    refine mv s rfl rfl fun a s => ?_
    refine gy s rfl (y_boxField (o' := 1) s rfl underlying37 rfl rfl rfl) fun a s => ?_
    refine gy s rfl (y_loadBox1 (kk := 1502) s rfl rfl rfl underlying3 rfl) fun a s => ?_
    refine gy s rfl (y_boxField (o' := 0) s rfl underlying37 rfl rfl rfl) fun a s => ?_
    refine gy s rfl (y_loadBox1 (kk := 1502) s rfl rfl rfl underlying35 rfl) fun a s => ?_
    refine gy s rfl (y_lenSlice s rfl underlying35) fun a s => ?_
    refine gy s rfl (y_geq s rfl rfl) fun a s => ?_
    refine qq s rfl (y_pick_f s rfl rfl) fun a s => ?_
    apply wN
    exact ⟨(decide ((((x14.Readings).length : Nat) : Int) ≤ x14.Gold)), hg, (s.sb rfl rfl rfl)⟩
   clear s a; rintro a w ⟨t_21, hg, s⟩
   subst hk20
   refine c_cond s rfl (fun hc23 => ?_) (fun hc23 => ?_)
   ·replace hg := br_t hg hc23
    apply wR
    refine qq s rfl (y_build (parts := []) (ps := []) (cells := #[.slice (none) (0) (0)]) s rfl (by kernel_rfl)) fun a s => ?_
    refine l_seq rfl (l_store (n := 1) (cs' := [.slice (none) (0) (0)]) s 1001 rfl rfl rfl rfl rfl rfl rfl rfl ?_); clear s; intro w hK s; clear hK
    refine asg s rfl rfl fun a s => ?_
    apply wN
    apply wp_ret
    refine p_inR ?_
    refine p_thenR ?_
    refine p_thenR ?_
    refine p_inR ?_
    refine p_thenR ?_
    obtain rfl := Option.some.inj hg
    refine fin2 (fn := Tryz.f7) s rfl (r_cell (kk := 1001) (n := 1) (vs := [.slice (none) (0) (0)]) s rfl rfl underlying24 rfl rfl rfl rfl) (r_tmp s rfl) ?_
    exact ⟨(none), (0), rfl, (SlR.nil_ _ _ _)⟩
   replace hg := br_n hg hc23
   apply wp_skip
   refine p_inN ?_
   apply pN
   apply wL
   refine qq s rfl (y_addN (i := t_10) (j := 1) s rfl rfl (in64.2 (by omega))) fun a s => ?_
   refine mv s rfl rfl fun a s => ?_
   apply wN
   exact ⟨m1, Nat.lt_succ_self _, ⟨(t_10 + 1), hg, (s.sb rfl rfl rfl)⟩⟩
  replace hg := br_f hg hc11
  apply wp_exit
  refine p_then ?_
  refine p_then ?_
  refine p_in ?_
  apply pN
  exact ⟨hg, (s.sb rfl rfl rfl)⟩
 clear s a; rintro a w ⟨hg, s⟩
 subst hk9
 apply wQ
 apply wR
 refine mv s rfl rfl fun a s => ?_
 refine mv s rfl rfl fun a s => ?_
 apply wN
 obtain ⟨k24, hg, hk24⟩ := jn_some hg
 refine c_post (fun a w => ∃ (b_25 : (List Weight)) (A26 : Option Addr) (c27 : Nat), k24 b_25 = some r ∧ St (⟨Tryz.f7.ntmps, M, noB, w0⟩ : Ctx) [(3, vP b3 0), (6, vP b4 0)] [(1000, Ob.box b3 [sl A26 (b_25) c27] 24), (1001, Ob.box b4 [.slice (none) (0) (0)] 24)] [(105, slF RWeight (A26) ((b_25).length) (c27) (b_25))] a w) ?_ ?_
 ·apply wp_block
  replace s := s.al 106 101 rfl
  refine c_loop (σ := Nat) (fun m2 a w => ∃ (t_28 : Nat) (b_29 : (List Weight)) (A30 : Option Addr) (c31 : Nat), model_Train_L1 n t_' t_'' k24 m2 t_28 b_29 = some r ∧ St (⟨Tryz.f7.ntmps, M, noB, w0⟩ : Ctx) [(1, sl Ap11 (t_') cp11), (3, vP b3 0), (6, vP b4 0), (45, vI (t_'')), (46, vI (((t_28 : Nat) : Int)))] [(1000, Ob.box b3 [sl A30 (b_29) c31] 24), (1001, Ob.box b4 [.slice (none) (0) (0)] 24)] [(102, slF RJudged (Ap11) ((t_').length) (cp11) (t_')), (106, slF RWeight (A30) ((b_29).length) (c31) (b_29))] a w) (fun m2 => m2) n ⟨(0), (t_.Weights), (Ap01), (cp01), hg, (s.sb rfl rfl rfl)⟩ ?_
  clear s a; rintro m2 a w ⟨t_28, b_29, A30, c31, hg, s⟩
  rcases m2 with _ | m2
  ·rw [model_Train_L1] at hg; cases hg
  rw [model_Train_L1] at hg
  apply wR
  refine qq s rfl (y_lss s rfl rfl) fun a s => ?_
  apply wN
  apply wQ
  refine c_dec s rfl (fun hc32 => ?_) (fun hc32 => ?_)
  ·replace hg := br_t hg hc32
   apply wp_skip
   apply pN
   apply wQ
   obtain ⟨k33, hg, hk33⟩ := jn_some hg
   refine c_post (fun a w => ∃ (b_34 : (List Weight)) (A35 : Option Addr) (c36 : Nat), k33 b_34 = some r ∧ St (⟨Tryz.f7.ntmps, M, noB, w0⟩ : Ctx) [(1, sl Ap11 (t_') cp11), (3, vP b3 0), (6, vP b4 0), (45, vI (t_'')), (46, vI (((t_28 : Nat) : Int)))] [(1000, Ob.box b3 [sl A35 (b_34) c36] 24), (1001, Ob.box b4 [.slice (none) (0) (0)] 24)] [(102, slF RJudged (Ap11) ((t_').length) (cp11) (t_')), (107, slF RWeight (A35) ((b_34).length) (c36) (b_34))] a w) ?_ ?_
   ·apply wp_block
    apply wR
    refine mv s rfl rfl fun a s => ?_
    refine qq s rfl (y_lenSlice s rfl underlying25) fun a s => ?_
    refine mv s rfl rfl fun a s => ?_
    apply wN
    apply wp_block
    replace s := s.al 108 106 rfl
    refine c_loop (σ := Nat) (fun m3 a w => ∃ (t_37 : Nat) (b_38 : (List Weight)) (A39 : Option Addr) (c40 : Nat), model_Train_L2 n t_' k33 m3 t_37 b_38 = some r ∧ St (⟨Tryz.f7.ntmps, M, noB, w0⟩ : Ctx) [(1, sl Ap11 (t_') cp11), (3, vP b3 0), (6, vP b4 0), (45, vI (t_'')), (46, vI (((t_28 : Nat) : Int))), (48, sl Ap11 (t_') cp11), (49, vI ((((t_').length : Nat) : Int))), (50, vI (((t_37 : Nat) : Int)))] [(1000, Ob.box b3 [sl A39 (b_38) c40] 24), (1001, Ob.box b4 [.slice (none) (0) (0)] 24)] [(102, slF RJudged (Ap11) ((t_').length) (cp11) (t_')), (108, slF RWeight (A39) ((b_38).length) (c40) (b_38))] a w) (fun m3 => m3) n ⟨(0), (b_29), (A30), (c31), hg, (s.sb rfl rfl rfl)⟩ ?_
    clear s a; rintro m3 a w ⟨t_37, b_38, A39, c40, hg, s⟩
    rcases m3 with _ | m3
    ·rw [model_Train_L2] at hg; cases hg
    rw [model_Train_L2] at hg
    apply wR
    refine qq s rfl (y_lssN (i := t_37) (j := ((t_').length)) s rfl rfl) fun a s => ?_
    apply wN
    apply wQ
    refine c_dec s rfl (fun hc41 => ?_) (fun hc41 => ?_)
    ·replace hg := br_t hg hc41
     have hmx42 := SlR.mx (s.ft 102 rfl)
     apply wp_skip
     apply pN
     apply wQ
     apply wp_block
     apply wQ
     obtain ⟨x44, hx44, hg⟩ := bind_some hg
     apply wL
     obtain ⟨p47, hep47, hpp47⟩ := SlR.elemX (s.ft 102 rfl) hx44
     refine qq s rfl (y_elem (sz := 2) (i := t_37) s rfl rfl underlying25 rfl hep47 rfl (lt_of_get hx44)) fun a s => ?_
     obtain ⟨hlq48, hmq48, csq48, hdq48, hcq48⟩ := hpp47
     obtain ⟨Aq481, cq481, rfl, hq481⟩ := RJudged.open hdq48
     replace s := s.ns 110 hq481
     refine qq s rfl (y_ldp s rfl hlq48 hmq48 (by simpa using hcq48) underlying37 rfl rfl) fun a s => ?_
     refine l_seq rfl (l_alloc (zs := [.slice (none) (0) (0), vI 0]) s 2302 rfl rfl rfl rfl fun b49 a w hb hK s => ?_)
     refine l_seq rfl (l_store (n := 2) (cs' := [sl Aq481 (x44.Readings) cq481, vI (x44.Gold)]) s 2302 rfl rfl rfl rfl rfl rfl rfl rfl ?_); clear s; intro w hK s; clear hK
     apply wN
     apply wQ
     obtain ⟨k50, hg, hk50⟩ := jn_some hg
     refine c_post (fun a w => ∃ (t_52 : Int) (t_53 : (List UInt8)) (t_54 : Int) (t_55 : Int) (t_56 : (List Deriv)) (t_60 : Int) (t_61 : (List UInt8)) (t_62 : Int) (t_63 : Int) (t_64 : (List Deriv)) (b51 : Nat) (A57 : Option Addr) (c58 : Nat) (b59 : Nat) (A65 : Option Addr) (c66 : Nat), k50 t_52 t_53 t_54 t_55 t_56 t_60 t_61 t_62 t_63 t_64 = some r ∧ ((t_53).length ≤ 9223372036854775807) ∧ ((t_61).length ≤ 9223372036854775807) ∧ St (⟨Tryz.f7.ntmps, M, noB, w0⟩ : Ctx) [(1, sl Ap11 (t_') cp11), (3, vP b3 0), (6, vP b4 0), (12, vP b51 0), (13, vP b59 0), (45, vI (t_'')), (46, vI (((t_28 : Nat) : Int))), (48, sl Ap11 (t_') cp11), (49, vI ((((t_').length : Nat) : Int))), (50, vI (((t_37 : Nat) : Int)))] [(1000, Ob.box b3 [sl A39 (b_38) c40] 24), (1001, Ob.box b4 [.slice (none) (0) (0)] 24), (2414, Ob.box b51 [vI t_52, vT t_53, vI t_54, vI t_55, sl A57 (t_56) c58] 42), (2415, Ob.box b59 [vI t_60, vT t_61, vI t_62, vI t_63, sl A65 (t_64) c66] 42)] [(102, slF RJudged (Ap11) ((t_').length) (cp11) (t_')), (108, slF RWeight (A39) ((b_38).length) (c40) (b_38)), (111, slF RDeriv (A57) ((t_56).length) (c58) (t_56)), (112, slF RDeriv (A65) ((t_64).length) (c66) (t_64))] a w) ?_ ?_
     ·obtain ⟨r67, hr67, hg⟩ := bind_some hg
      obtain ⟨x71, hx71, hg⟩ := bind_some hg
      obtain ⟨x74, hx74, hg⟩ := bind_some hg
      refine d_steps s [] rfl ?_; clear s; intro wr hZ s; have hR := s.wd; have hE := Ext.init hR 0
      refine n_q 0 0 s hR rfl (by kernel_rfl) (by kernel_rfl) (by kernel_rfl) rfl rfl rfl (y_boxField (o' := 0) s rfl underlying37 rfl rfl rfl) fun a s => ?_
      refine n_q 1 2302 s hR rfl (by kernel_rfl) (by kernel_rfl) (by kernel_rfl) rfl rfl rfl (y_loadBox1 (kk := 2302) s rfl rfl rfl underlying35 rfl) fun a s => ?_
      refine n_q 2 1000 s hR rfl (by kernel_rfl) (by kernel_rfl) (by kernel_rfl) rfl rfl rfl (y_loadAll (kk := 1000) s rfl rfl underlying24 rfl rfl) fun a s => ?_
      refine n_q 3 0 s hR rfl (by kernel_rfl) (by kernel_rfl) (by kernel_rfl) rfl rfl rfl (y_boxField (o' := 0) s rfl underlying37 rfl rfl rfl) fun a s => ?_
      refine n_q 4 2302 s hR rfl (by kernel_rfl) (by kernel_rfl) (by kernel_rfl) rfl rfl rfl (y_loadBox1 (kk := 2302) s rfl rfl rfl underlying35 rfl) fun a s => ?_
      refine n_q 8 0 s hR rfl (by kernel_rfl) (by kernel_rfl) (by kernel_rfl) rfl rfl rfl (y_boxField (o' := 0) s rfl underlying37 rfl rfl rfl) fun a s => ?_
      refine n_q 9 2302 s hR rfl (by kernel_rfl) (by kernel_rfl) (by kernel_rfl) rfl rfl rfl (y_loadBox1 (kk := 2302) s rfl rfl rfl underlying35 rfl) fun a s => ?_
      refine n_q 10 0 s hR rfl (by kernel_rfl) (by kernel_rfl) (by kernel_rfl) rfl rfl rfl (y_boxField (o' := 1) s rfl underlying37 rfl rfl rfl) fun a s => ?_
      refine n_q 11 2302 s hR rfl (by kernel_rfl) (by kernel_rfl) (by kernel_rfl) rfl rfl rfl (y_loadBox1 (kk := 2302) s rfl rfl rfl underlying3 rfl) fun a s => ?_
      obtain ⟨p78, hep78, hpp78⟩ := SlR.elemX (s.ft 110 rfl) (ix_some hx74).1
      refine n_q 12 0 s hR rfl (by kernel_rfl) (by kernel_rfl) (by kernel_rfl) rfl rfl rfl (y_elem (sz := 5) (i := ((x44.Gold).toNat)) s rfl rfl underlying35 rfl hep78 (ix_some hx74).2.1 (lt_of_get (ix_some hx74).1)) fun a s => ?_
      obtain ⟨hlq79, hmq79, csq79, hdq79, hcq79⟩ := (SlR.again (s.ft 110 rfl) (ix_some hx74).1 hep78)
      obtain ⟨Aq795, cq795, rfl, lq792, hq795⟩ := RDeriv.open hdq79
      replace s := s.ns 115 hq795
      refine n_q 13 0 s hR rfl (by kernel_rfl) (by kernel_rfl) (by kernel_rfl) rfl rfl rfl (y_ldp s rfl hlq79 hmq79 (by simpa using hcq79) underlying42 rfl rfl) fun a s => ?_
      refine n_3 5 14 15 s (by kernel_rfl) rfl rfl rfl rfl rfl rfl ?_ ?_ ?_
      ·refine l_call (cap := []) s rfl func14 rfl (by kernel_rfl) rfl rfl (c_model_Best n _ _ s.lt (Model.mk b_38) (A39) (c40) (s.ft 108 rfl) x44.Readings (Aq481) (cq481) (s.ft 110 rfl) r67 hr67) fun v80 a w hK hp s => ?_
       replace hE := hE.grow hK; replace hZ := Nat.le_trans hZ hK.size; refine ⟨fun g _ h => h.grow hK, ?_⟩; clear hK
       obtain rfl := hp
       obtain ⟨p82, hep82, hpp82⟩ := SlR.elemX (s.ft 110 rfl) (ix_some hx71).1
       refine n_ql 6 s hE rfl (by kernel_rfl) (by kernel_rfl) (by kernel_rfl) rfl rfl rfl (fun w' s => y_elem (sz := 5) (i := ((r67).toNat)) s rfl rfl underlying35 rfl hep82 (ix_some hx71).2.1 (lt_of_get (ix_some hx71).1)) fun a s => ?_
       refine n_3 7 14 15 s (by kernel_rfl) rfl rfl rfl rfl rfl rfl ?_ ?_ ?_
       ·obtain ⟨hlq83, hmq83, csq83, hdq83, hcq83⟩ := (SlR.again (s.ft 110 rfl) (ix_some hx71).1 hep82)
        obtain ⟨Aq835, cq835, rfl, lq832, hq835⟩ := RDeriv.open hdq83
        replace s := s.ns 116 hq835
        refine l_quiet s rfl rfl (y_ldp s rfl hlq83 hmq83 (by simpa using hcq83) underlying42 rfl rfl) fun a s => ?_; refine ⟨fun g _ h => h, ?_⟩
        refine n_2 14 15 s (by kernel_rfl) rfl rfl rfl rfl ?_ ?_
        ·refine l_alloc (zs := [vI 0, vT ([]), vI 0, vI 0, .slice (none) (0) (0)]) s 2414 rfl rfl rfl rfl fun b84 a w hb hK s => ?_
         have hNb84 := Nat.le_trans hZ hb
         replace hE := hE.grow hK; replace hZ := Nat.le_trans hZ hK.size; refine ⟨fun g _ h => h.grow hK, ?_⟩; clear hK
         refine n_1 15 s (by kernel_rfl) rfl rfl (l_alloc (zs := [vI 0, vT ([]), vI 0, vI 0, .slice (none) (0) (0)]) s 2415 rfl rfl rfl rfl fun b85 a w hb hK s => ?_)
         have hNb85 := Nat.le_trans hZ hb
         replace hE := hE.grow hK; replace hZ := Nat.le_trans hZ hK.size; refine ⟨fun g _ h => h.grow hK, ?_⟩; clear hK
         refine n_1 16 s (by kernel_rfl) rfl rfl (l_store (n := 5) (cs' := [vI (x71.Kind), vT (x71.Name), vI (x71.From), vI (x71.To), sl Aq835 (x71.Kids) cq835]) s 2414 rfl rfl rfl rfl rfl rfl rfl rfl ?_); clear s; intro w hK s; replace hZ := Nat.le_trans hZ hK.size
         refine ⟨fun g _ h => h.app hR hK (fun x e => by cases e; exact hNb84), ?_⟩; clear hK
         refine n_1 17 s (by kernel_rfl) rfl rfl (l_store (n := 5) (cs' := [vI (x74.Kind), vT (x74.Name), vI (x74.From), vI (x74.To), sl Aq795 (x74.Kids) cq795]) s 2415 rfl rfl rfl rfl rfl rfl rfl rfl ?_); clear s; intro w hK s; replace hZ := Nat.le_trans hZ hK.size
         refine ⟨fun g _ h => h.app hR hK (fun x e => by cases e; exact hNb85), ?_⟩; clear hK
         refine n_end (by kernel_rfl) ?_; clear hR hZ hE
         apply pN
         replace s := s.al 111 116 rfl
         replace s := s.al 112 115 rfl
         exact ⟨(x71.Kind), (x71.Name), (x71.From), (x71.To), (x71.Kids), (x74.Kind), (x74.Name), (x74.From), (x74.To), (x74.Kids), (b84), (Aq835), (cq835), (b85), (Aq795), (cq795), hg, (by omega), (by omega), (s.sb rfl rfl rfl)⟩
        ·refine l_alloc (zs := [vI 0, vT ([]), vI 0, vI 0, .slice (none) (0) (0)]) s 2415 rfl rfl rfl rfl fun b86 a w hb hK s => ?_
         have hNb86 := Nat.le_trans hZ hb
         replace hE := hE.grow hK; replace hZ := Nat.le_trans hZ hK.size; refine ⟨fun g _ h => h.grow hK, ?_⟩; clear hK
         refine n_1 14 s (by kernel_rfl) rfl rfl (l_alloc (zs := [vI 0, vT ([]), vI 0, vI 0, .slice (none) (0) (0)]) s 2414 rfl rfl rfl rfl fun b87 a w hb hK s => ?_)
         have hNb87 := Nat.le_trans hZ hb
         replace hE := hE.grow hK; replace hZ := Nat.le_trans hZ hK.size; refine ⟨fun g _ h => h.grow hK, ?_⟩; clear hK
         refine n_1 16 s (by kernel_rfl) rfl rfl (l_store (n := 5) (cs' := [vI (x71.Kind), vT (x71.Name), vI (x71.From), vI (x71.To), sl Aq835 (x71.Kids) cq835]) s 2414 rfl rfl rfl rfl rfl rfl rfl rfl ?_); clear s; intro w hK s; replace hZ := Nat.le_trans hZ hK.size
         refine ⟨fun g _ h => h.app hR hK (fun x e => by cases e; exact hNb87), ?_⟩; clear hK
         refine n_1 17 s (by kernel_rfl) rfl rfl (l_store (n := 5) (cs' := [vI (x74.Kind), vT (x74.Name), vI (x74.From), vI (x74.To), sl Aq795 (x74.Kids) cq795]) s 2415 rfl rfl rfl rfl rfl rfl rfl rfl ?_); clear s; intro w hK s; replace hZ := Nat.le_trans hZ hK.size
         refine ⟨fun g _ h => h.app hR hK (fun x e => by cases e; exact hNb86), ?_⟩; clear hK
         refine n_end (by kernel_rfl) ?_; clear hR hZ hE
         apply pN
         replace s := s.al 111 116 rfl
         replace s := s.al 112 115 rfl
         exact ⟨(x71.Kind), (x71.Name), (x71.From), (x71.To), (x71.Kids), (x74.Kind), (x74.Name), (x74.From), (x74.To), (x74.Kids), (b87), (Aq835), (cq835), (b86), (Aq795), (cq795), hg, (by omega), (by omega), (s.sb rfl rfl rfl)⟩
       ·refine l_alloc (zs := [vI 0, vT ([]), vI 0, vI 0, .slice (none) (0) (0)]) s 2414 rfl rfl rfl rfl fun b88 a w hb hK s => ?_
        have hNb88 := Nat.le_trans hZ hb
        replace hE := hE.grow hK; replace hZ := Nat.le_trans hZ hK.size; refine ⟨fun g _ h => h.grow hK, ?_⟩; clear hK
        refine n_2 7 15 s (by kernel_rfl) rfl rfl rfl rfl ?_ ?_
        ·obtain ⟨hlq89, hmq89, csq89, hdq89, hcq89⟩ := (SlR.again (s.ft 110 rfl) (ix_some hx71).1 hep82)
         obtain ⟨Aq895, cq895, rfl, lq892, hq895⟩ := RDeriv.open hdq89
         replace s := s.ns 117 hq895
         refine l_quiet s rfl rfl (y_ldp s rfl hlq89 hmq89 (by simpa using hcq89) underlying42 rfl rfl) fun a s => ?_; refine ⟨fun g _ h => h, ?_⟩
         refine n_1 15 s (by kernel_rfl) rfl rfl (l_alloc (zs := [vI 0, vT ([]), vI 0, vI 0, .slice (none) (0) (0)]) s 2415 rfl rfl rfl rfl fun b90 a w hb hK s => ?_)
         have hNb90 := Nat.le_trans hZ hb
         replace hE := hE.grow hK; replace hZ := Nat.le_trans hZ hK.size; refine ⟨fun g _ h => h.grow hK, ?_⟩; clear hK
         refine n_1 16 s (by kernel_rfl) rfl rfl (l_store (n := 5) (cs' := [vI (x71.Kind), vT (x71.Name), vI (x71.From), vI (x71.To), sl Aq895 (x71.Kids) cq895]) s 2414 rfl rfl rfl rfl rfl rfl rfl rfl ?_); clear s; intro w hK s; replace hZ := Nat.le_trans hZ hK.size
         refine ⟨fun g _ h => h.app hR hK (fun x e => by cases e; exact hNb88), ?_⟩; clear hK
         refine n_1 17 s (by kernel_rfl) rfl rfl (l_store (n := 5) (cs' := [vI (x74.Kind), vT (x74.Name), vI (x74.From), vI (x74.To), sl Aq795 (x74.Kids) cq795]) s 2415 rfl rfl rfl rfl rfl rfl rfl rfl ?_); clear s; intro w hK s; replace hZ := Nat.le_trans hZ hK.size
         refine ⟨fun g _ h => h.app hR hK (fun x e => by cases e; exact hNb90), ?_⟩; clear hK
         refine n_end (by kernel_rfl) ?_; clear hR hZ hE
         apply pN
         replace s := s.al 111 117 rfl
         replace s := s.al 112 115 rfl
         exact ⟨(x71.Kind), (x71.Name), (x71.From), (x71.To), (x71.Kids), (x74.Kind), (x74.Name), (x74.From), (x74.To), (x74.Kids), (b88), (Aq895), (cq895), (b90), (Aq795), (cq795), hg, (by omega), (by omega), (s.sb rfl rfl rfl)⟩
        ·refine l_alloc (zs := [vI 0, vT ([]), vI 0, vI 0, .slice (none) (0) (0)]) s 2415 rfl rfl rfl rfl fun b91 a w hb hK s => ?_
         have hNb91 := Nat.le_trans hZ hb
         replace hE := hE.grow hK; replace hZ := Nat.le_trans hZ hK.size; refine ⟨fun g _ h => h.grow hK, ?_⟩; clear hK
         obtain ⟨hlq92, hmq92, csq92, hdq92, hcq92⟩ := (SlR.again (s.ft 110 rfl) (ix_some hx71).1 hep82)
         obtain ⟨Aq925, cq925, rfl, lq922, hq925⟩ := RDeriv.open hdq92
         replace s := s.ns 118 hq925
         refine n_1 7 s (by kernel_rfl) rfl rfl (l_quiet s rfl rfl (y_ldp s rfl hlq92 hmq92 (by simpa using hcq92) underlying42 rfl rfl) fun a s => ?_); refine ⟨fun g _ h => h, ?_⟩
         refine n_1 16 s (by kernel_rfl) rfl rfl (l_store (n := 5) (cs' := [vI (x71.Kind), vT (x71.Name), vI (x71.From), vI (x71.To), sl Aq925 (x71.Kids) cq925]) s 2414 rfl rfl rfl rfl rfl rfl rfl rfl ?_); clear s; intro w hK s; replace hZ := Nat.le_trans hZ hK.size
         refine ⟨fun g _ h => h.app hR hK (fun x e => by cases e; exact hNb88), ?_⟩; clear hK
         refine n_1 17 s (by kernel_rfl) rfl rfl (l_store (n := 5) (cs' := [vI (x74.Kind), vT (x74.Name), vI (x74.From), vI (x74.To), sl Aq795 (x74.Kids) cq795]) s 2415 rfl rfl rfl rfl rfl rfl rfl rfl ?_); clear s; intro w hK s; replace hZ := Nat.le_trans hZ hK.size
         refine ⟨fun g _ h => h.app hR hK (fun x e => by cases e; exact hNb91), ?_⟩; clear hK
         refine n_end (by kernel_rfl) ?_; clear hR hZ hE
         apply pN
         replace s := s.al 111 118 rfl
         replace s := s.al 112 115 rfl
         exact ⟨(x71.Kind), (x71.Name), (x71.From), (x71.To), (x71.Kids), (x74.Kind), (x74.Name), (x74.From), (x74.To), (x74.Kids), (b88), (Aq925), (cq925), (b91), (Aq795), (cq795), hg, (by omega), (by omega), (s.sb rfl rfl rfl)⟩
       ·refine l_alloc (zs := [vI 0, vT ([]), vI 0, vI 0, .slice (none) (0) (0)]) s 2415 rfl rfl rfl rfl fun b93 a w hb hK s => ?_
        have hNb93 := Nat.le_trans hZ hb
        replace hE := hE.grow hK; replace hZ := Nat.le_trans hZ hK.size; refine ⟨fun g _ h => h.grow hK, ?_⟩; clear hK
        refine n_2 7 14 s (by kernel_rfl) rfl rfl rfl rfl ?_ ?_
        ·obtain ⟨hlq94, hmq94, csq94, hdq94, hcq94⟩ := (SlR.again (s.ft 110 rfl) (ix_some hx71).1 hep82)
         obtain ⟨Aq945, cq945, rfl, lq942, hq945⟩ := RDeriv.open hdq94
         replace s := s.ns 119 hq945
         refine l_quiet s rfl rfl (y_ldp s rfl hlq94 hmq94 (by simpa using hcq94) underlying42 rfl rfl) fun a s => ?_; refine ⟨fun g _ h => h, ?_⟩
         refine n_1 14 s (by kernel_rfl) rfl rfl (l_alloc (zs := [vI 0, vT ([]), vI 0, vI 0, .slice (none) (0) (0)]) s 2414 rfl rfl rfl rfl fun b95 a w hb hK s => ?_)
         have hNb95 := Nat.le_trans hZ hb
         replace hE := hE.grow hK; replace hZ := Nat.le_trans hZ hK.size; refine ⟨fun g _ h => h.grow hK, ?_⟩; clear hK
         refine n_1 16 s (by kernel_rfl) rfl rfl (l_store (n := 5) (cs' := [vI (x71.Kind), vT (x71.Name), vI (x71.From), vI (x71.To), sl Aq945 (x71.Kids) cq945]) s 2414 rfl rfl rfl rfl rfl rfl rfl rfl ?_); clear s; intro w hK s; replace hZ := Nat.le_trans hZ hK.size
         refine ⟨fun g _ h => h.app hR hK (fun x e => by cases e; exact hNb95), ?_⟩; clear hK
         refine n_1 17 s (by kernel_rfl) rfl rfl (l_store (n := 5) (cs' := [vI (x74.Kind), vT (x74.Name), vI (x74.From), vI (x74.To), sl Aq795 (x74.Kids) cq795]) s 2415 rfl rfl rfl rfl rfl rfl rfl rfl ?_); clear s; intro w hK s; replace hZ := Nat.le_trans hZ hK.size
         refine ⟨fun g _ h => h.app hR hK (fun x e => by cases e; exact hNb93), ?_⟩; clear hK
         refine n_end (by kernel_rfl) ?_; clear hR hZ hE
         apply pN
         replace s := s.al 111 119 rfl
         replace s := s.al 112 115 rfl
         exact ⟨(x71.Kind), (x71.Name), (x71.From), (x71.To), (x71.Kids), (x74.Kind), (x74.Name), (x74.From), (x74.To), (x74.Kids), (b95), (Aq945), (cq945), (b93), (Aq795), (cq795), hg, (by omega), (by omega), (s.sb rfl rfl rfl)⟩
        ·refine l_alloc (zs := [vI 0, vT ([]), vI 0, vI 0, .slice (none) (0) (0)]) s 2414 rfl rfl rfl rfl fun b96 a w hb hK s => ?_
         have hNb96 := Nat.le_trans hZ hb
         replace hE := hE.grow hK; replace hZ := Nat.le_trans hZ hK.size; refine ⟨fun g _ h => h.grow hK, ?_⟩; clear hK
         obtain ⟨hlq97, hmq97, csq97, hdq97, hcq97⟩ := (SlR.again (s.ft 110 rfl) (ix_some hx71).1 hep82)
         obtain ⟨Aq975, cq975, rfl, lq972, hq975⟩ := RDeriv.open hdq97
         replace s := s.ns 120 hq975
         refine n_1 7 s (by kernel_rfl) rfl rfl (l_quiet s rfl rfl (y_ldp s rfl hlq97 hmq97 (by simpa using hcq97) underlying42 rfl rfl) fun a s => ?_); refine ⟨fun g _ h => h, ?_⟩
         refine n_1 16 s (by kernel_rfl) rfl rfl (l_store (n := 5) (cs' := [vI (x71.Kind), vT (x71.Name), vI (x71.From), vI (x71.To), sl Aq975 (x71.Kids) cq975]) s 2414 rfl rfl rfl rfl rfl rfl rfl rfl ?_); clear s; intro w hK s; replace hZ := Nat.le_trans hZ hK.size
         refine ⟨fun g _ h => h.app hR hK (fun x e => by cases e; exact hNb96), ?_⟩; clear hK
         refine n_1 17 s (by kernel_rfl) rfl rfl (l_store (n := 5) (cs' := [vI (x74.Kind), vT (x74.Name), vI (x74.From), vI (x74.To), sl Aq795 (x74.Kids) cq795]) s 2415 rfl rfl rfl rfl rfl rfl rfl rfl ?_); clear s; intro w hK s; replace hZ := Nat.le_trans hZ hK.size
         refine ⟨fun g _ h => h.app hR hK (fun x e => by cases e; exact hNb93), ?_⟩; clear hK
         refine n_end (by kernel_rfl) ?_; clear hR hZ hE
         apply pN
         replace s := s.al 111 120 rfl
         replace s := s.al 112 115 rfl
         exact ⟨(x71.Kind), (x71.Name), (x71.From), (x71.To), (x71.Kids), (x74.Kind), (x74.Name), (x74.From), (x74.To), (x74.Kids), (b96), (Aq975), (cq975), (b93), (Aq795), (cq795), hg, (by omega), (by omega), (s.sb rfl rfl rfl)⟩
      ·refine l_alloc (zs := [vI 0, vT ([]), vI 0, vI 0, .slice (none) (0) (0)]) s 2414 rfl rfl rfl rfl fun b98 a w hb hK s => ?_
       have hNb98 := Nat.le_trans hZ hb
       replace hE := hE.grow hK; replace hZ := Nat.le_trans hZ hK.size; refine ⟨fun g _ h => h.grow hK, ?_⟩; clear hK
       refine n_2 5 15 s (by kernel_rfl) rfl rfl rfl rfl ?_ ?_
       ·refine l_call (cap := []) s rfl func14 rfl (by kernel_rfl) rfl rfl (c_model_Best n _ _ s.lt (Model.mk b_38) (A39) (c40) (s.ft 108 rfl) x44.Readings (Aq481) (cq481) (s.ft 110 rfl) r67 hr67) fun v99 a w hK hp s => ?_
        replace hE := hE.grow hK; replace hZ := Nat.le_trans hZ hK.size; refine ⟨fun g _ h => h.grow hK, ?_⟩; clear hK
        obtain rfl := hp
        obtain ⟨p101, hep101, hpp101⟩ := SlR.elemX (s.ft 110 rfl) (ix_some hx71).1
        refine n_ql 6 s hE rfl (by kernel_rfl) (by kernel_rfl) (by kernel_rfl) rfl rfl rfl (fun w' s => y_elem (sz := 5) (i := ((r67).toNat)) s rfl rfl underlying35 rfl hep101 (ix_some hx71).2.1 (lt_of_get (ix_some hx71).1)) fun a s => ?_
        refine n_2 7 15 s (by kernel_rfl) rfl rfl rfl rfl ?_ ?_
        ·obtain ⟨hlq102, hmq102, csq102, hdq102, hcq102⟩ := (SlR.again (s.ft 110 rfl) (ix_some hx71).1 hep101)
         obtain ⟨Aq1025, cq1025, rfl, lq1022, hq1025⟩ := RDeriv.open hdq102
         replace s := s.ns 121 hq1025
         refine l_quiet s rfl rfl (y_ldp s rfl hlq102 hmq102 (by simpa using hcq102) underlying42 rfl rfl) fun a s => ?_; refine ⟨fun g _ h => h, ?_⟩
         refine n_1 15 s (by kernel_rfl) rfl rfl (l_alloc (zs := [vI 0, vT ([]), vI 0, vI 0, .slice (none) (0) (0)]) s 2415 rfl rfl rfl rfl fun b103 a w hb hK s => ?_)
         have hNb103 := Nat.le_trans hZ hb
         replace hE := hE.grow hK; replace hZ := Nat.le_trans hZ hK.size; refine ⟨fun g _ h => h.grow hK, ?_⟩; clear hK
         refine n_1 16 s (by kernel_rfl) rfl rfl (l_store (n := 5) (cs' := [vI (x71.Kind), vT (x71.Name), vI (x71.From), vI (x71.To), sl Aq1025 (x71.Kids) cq1025]) s 2414 rfl rfl rfl rfl rfl rfl rfl rfl ?_); clear s; intro w hK s; replace hZ := Nat.le_trans hZ hK.size
         refine ⟨fun g _ h => h.app hR hK (fun x e => by cases e; exact hNb98), ?_⟩; clear hK
         refine n_1 17 s (by kernel_rfl) rfl rfl (l_store (n := 5) (cs' := [vI (x74.Kind), vT (x74.Name), vI (x74.From), vI (x74.To), sl Aq795 (x74.Kids) cq795]) s 2415 rfl rfl rfl rfl rfl rfl rfl rfl ?_); clear s; intro w hK s; replace hZ := Nat.le_trans hZ hK.size
         refine ⟨fun g _ h => h.app hR hK (fun x e => by cases e; exact hNb103), ?_⟩; clear hK
         refine n_end (by kernel_rfl) ?_; clear hR hZ hE
         apply pN
         replace s := s.al 111 121 rfl
         replace s := s.al 112 115 rfl
         exact ⟨(x71.Kind), (x71.Name), (x71.From), (x71.To), (x71.Kids), (x74.Kind), (x74.Name), (x74.From), (x74.To), (x74.Kids), (b98), (Aq1025), (cq1025), (b103), (Aq795), (cq795), hg, (by omega), (by omega), (s.sb rfl rfl rfl)⟩
        ·refine l_alloc (zs := [vI 0, vT ([]), vI 0, vI 0, .slice (none) (0) (0)]) s 2415 rfl rfl rfl rfl fun b104 a w hb hK s => ?_
         have hNb104 := Nat.le_trans hZ hb
         replace hE := hE.grow hK; replace hZ := Nat.le_trans hZ hK.size; refine ⟨fun g _ h => h.grow hK, ?_⟩; clear hK
         obtain ⟨hlq105, hmq105, csq105, hdq105, hcq105⟩ := (SlR.again (s.ft 110 rfl) (ix_some hx71).1 hep101)
         obtain ⟨Aq1055, cq1055, rfl, lq1052, hq1055⟩ := RDeriv.open hdq105
         replace s := s.ns 122 hq1055
         refine n_1 7 s (by kernel_rfl) rfl rfl (l_quiet s rfl rfl (y_ldp s rfl hlq105 hmq105 (by simpa using hcq105) underlying42 rfl rfl) fun a s => ?_); refine ⟨fun g _ h => h, ?_⟩
         refine n_1 16 s (by kernel_rfl) rfl rfl (l_store (n := 5) (cs' := [vI (x71.Kind), vT (x71.Name), vI (x71.From), vI (x71.To), sl Aq1055 (x71.Kids) cq1055]) s 2414 rfl rfl rfl rfl rfl rfl rfl rfl ?_); clear s; intro w hK s; replace hZ := Nat.le_trans hZ hK.size
         refine ⟨fun g _ h => h.app hR hK (fun x e => by cases e; exact hNb98), ?_⟩; clear hK
         refine n_1 17 s (by kernel_rfl) rfl rfl (l_store (n := 5) (cs' := [vI (x74.Kind), vT (x74.Name), vI (x74.From), vI (x74.To), sl Aq795 (x74.Kids) cq795]) s 2415 rfl rfl rfl rfl rfl rfl rfl rfl ?_); clear s; intro w hK s; replace hZ := Nat.le_trans hZ hK.size
         refine ⟨fun g _ h => h.app hR hK (fun x e => by cases e; exact hNb104), ?_⟩; clear hK
         refine n_end (by kernel_rfl) ?_; clear hR hZ hE
         apply pN
         replace s := s.al 111 122 rfl
         replace s := s.al 112 115 rfl
         exact ⟨(x71.Kind), (x71.Name), (x71.From), (x71.To), (x71.Kids), (x74.Kind), (x74.Name), (x74.From), (x74.To), (x74.Kids), (b98), (Aq1055), (cq1055), (b104), (Aq795), (cq795), hg, (by omega), (by omega), (s.sb rfl rfl rfl)⟩
       ·refine l_alloc (zs := [vI 0, vT ([]), vI 0, vI 0, .slice (none) (0) (0)]) s 2415 rfl rfl rfl rfl fun b106 a w hb hK s => ?_
        have hNb106 := Nat.le_trans hZ hb
        replace hE := hE.grow hK; replace hZ := Nat.le_trans hZ hK.size; refine ⟨fun g _ h => h.grow hK, ?_⟩; clear hK
        refine n_1 5 s (by kernel_rfl) rfl rfl (l_call (cap := []) s rfl func14 rfl (by kernel_rfl) rfl rfl (c_model_Best n _ _ s.lt (Model.mk b_38) (A39) (c40) (s.ft 108 rfl) x44.Readings (Aq481) (cq481) (s.ft 110 rfl) r67 hr67) fun v107 a w hK hp s => ?_)
        replace hE := hE.grow hK; replace hZ := Nat.le_trans hZ hK.size; refine ⟨fun g _ h => h.grow hK, ?_⟩; clear hK
        obtain rfl := hp
        obtain ⟨p109, hep109, hpp109⟩ := SlR.elemX (s.ft 110 rfl) (ix_some hx71).1
        refine n_1 6 s (by kernel_rfl) rfl rfl (l_quiet s rfl rfl (y_elem (sz := 5) (i := ((r67).toNat)) s rfl rfl underlying35 rfl hep109 (ix_some hx71).2.1 (lt_of_get (ix_some hx71).1)) fun a s => ?_); refine ⟨fun g _ h => h, ?_⟩
        obtain ⟨hlq110, hmq110, csq110, hdq110, hcq110⟩ := (SlR.again (s.ft 110 rfl) (ix_some hx71).1 hep109)
        obtain ⟨Aq1105, cq1105, rfl, lq1102, hq1105⟩ := RDeriv.open hdq110
        replace s := s.ns 123 hq1105
        refine n_1 7 s (by kernel_rfl) rfl rfl (l_quiet s rfl rfl (y_ldp s rfl hlq110 hmq110 (by simpa using hcq110) underlying42 rfl rfl) fun a s => ?_); refine ⟨fun g _ h => h, ?_⟩
        refine n_1 16 s (by kernel_rfl) rfl rfl (l_store (n := 5) (cs' := [vI (x71.Kind), vT (x71.Name), vI (x71.From), vI (x71.To), sl Aq1105 (x71.Kids) cq1105]) s 2414 rfl rfl rfl rfl rfl rfl rfl rfl ?_); clear s; intro w hK s; replace hZ := Nat.le_trans hZ hK.size
        refine ⟨fun g _ h => h.app hR hK (fun x e => by cases e; exact hNb98), ?_⟩; clear hK
        refine n_1 17 s (by kernel_rfl) rfl rfl (l_store (n := 5) (cs' := [vI (x74.Kind), vT (x74.Name), vI (x74.From), vI (x74.To), sl Aq795 (x74.Kids) cq795]) s 2415 rfl rfl rfl rfl rfl rfl rfl rfl ?_); clear s; intro w hK s; replace hZ := Nat.le_trans hZ hK.size
        refine ⟨fun g _ h => h.app hR hK (fun x e => by cases e; exact hNb106), ?_⟩; clear hK
        refine n_end (by kernel_rfl) ?_; clear hR hZ hE
        apply pN
        replace s := s.al 111 123 rfl
        replace s := s.al 112 115 rfl
        exact ⟨(x71.Kind), (x71.Name), (x71.From), (x71.To), (x71.Kids), (x74.Kind), (x74.Name), (x74.From), (x74.To), (x74.Kids), (b98), (Aq1105), (cq1105), (b106), (Aq795), (cq795), hg, (by omega), (by omega), (s.sb rfl rfl rfl)⟩
      ·refine l_alloc (zs := [vI 0, vT ([]), vI 0, vI 0, .slice (none) (0) (0)]) s 2415 rfl rfl rfl rfl fun b111 a w hb hK s => ?_
       have hNb111 := Nat.le_trans hZ hb
       replace hE := hE.grow hK; replace hZ := Nat.le_trans hZ hK.size; refine ⟨fun g _ h => h.grow hK, ?_⟩; clear hK
       refine n_2 5 14 s (by kernel_rfl) rfl rfl rfl rfl ?_ ?_
       ·refine l_call (cap := []) s rfl func14 rfl (by kernel_rfl) rfl rfl (c_model_Best n _ _ s.lt (Model.mk b_38) (A39) (c40) (s.ft 108 rfl) x44.Readings (Aq481) (cq481) (s.ft 110 rfl) r67 hr67) fun v112 a w hK hp s => ?_
        replace hE := hE.grow hK; replace hZ := Nat.le_trans hZ hK.size; refine ⟨fun g _ h => h.grow hK, ?_⟩; clear hK
        obtain rfl := hp
        obtain ⟨p114, hep114, hpp114⟩ := SlR.elemX (s.ft 110 rfl) (ix_some hx71).1
        refine n_ql 6 s hE rfl (by kernel_rfl) (by kernel_rfl) (by kernel_rfl) rfl rfl rfl (fun w' s => y_elem (sz := 5) (i := ((r67).toNat)) s rfl rfl underlying35 rfl hep114 (ix_some hx71).2.1 (lt_of_get (ix_some hx71).1)) fun a s => ?_
        refine n_2 7 14 s (by kernel_rfl) rfl rfl rfl rfl ?_ ?_
        ·obtain ⟨hlq115, hmq115, csq115, hdq115, hcq115⟩ := (SlR.again (s.ft 110 rfl) (ix_some hx71).1 hep114)
         obtain ⟨Aq1155, cq1155, rfl, lq1152, hq1155⟩ := RDeriv.open hdq115
         replace s := s.ns 124 hq1155
         refine l_quiet s rfl rfl (y_ldp s rfl hlq115 hmq115 (by simpa using hcq115) underlying42 rfl rfl) fun a s => ?_; refine ⟨fun g _ h => h, ?_⟩
         refine n_1 14 s (by kernel_rfl) rfl rfl (l_alloc (zs := [vI 0, vT ([]), vI 0, vI 0, .slice (none) (0) (0)]) s 2414 rfl rfl rfl rfl fun b116 a w hb hK s => ?_)
         have hNb116 := Nat.le_trans hZ hb
         replace hE := hE.grow hK; replace hZ := Nat.le_trans hZ hK.size; refine ⟨fun g _ h => h.grow hK, ?_⟩; clear hK
         refine n_1 16 s (by kernel_rfl) rfl rfl (l_store (n := 5) (cs' := [vI (x71.Kind), vT (x71.Name), vI (x71.From), vI (x71.To), sl Aq1155 (x71.Kids) cq1155]) s 2414 rfl rfl rfl rfl rfl rfl rfl rfl ?_); clear s; intro w hK s; replace hZ := Nat.le_trans hZ hK.size
         refine ⟨fun g _ h => h.app hR hK (fun x e => by cases e; exact hNb116), ?_⟩; clear hK
         refine n_1 17 s (by kernel_rfl) rfl rfl (l_store (n := 5) (cs' := [vI (x74.Kind), vT (x74.Name), vI (x74.From), vI (x74.To), sl Aq795 (x74.Kids) cq795]) s 2415 rfl rfl rfl rfl rfl rfl rfl rfl ?_); clear s; intro w hK s; replace hZ := Nat.le_trans hZ hK.size
         refine ⟨fun g _ h => h.app hR hK (fun x e => by cases e; exact hNb111), ?_⟩; clear hK
         refine n_end (by kernel_rfl) ?_; clear hR hZ hE
         apply pN
         replace s := s.al 111 124 rfl
         replace s := s.al 112 115 rfl
         exact ⟨(x71.Kind), (x71.Name), (x71.From), (x71.To), (x71.Kids), (x74.Kind), (x74.Name), (x74.From), (x74.To), (x74.Kids), (b116), (Aq1155), (cq1155), (b111), (Aq795), (cq795), hg, (by omega), (by omega), (s.sb rfl rfl rfl)⟩
        ·refine l_alloc (zs := [vI 0, vT ([]), vI 0, vI 0, .slice (none) (0) (0)]) s 2414 rfl rfl rfl rfl fun b117 a w hb hK s => ?_
         have hNb117 := Nat.le_trans hZ hb
         replace hE := hE.grow hK; replace hZ := Nat.le_trans hZ hK.size; refine ⟨fun g _ h => h.grow hK, ?_⟩; clear hK
         obtain ⟨hlq118, hmq118, csq118, hdq118, hcq118⟩ := (SlR.again (s.ft 110 rfl) (ix_some hx71).1 hep114)
         obtain ⟨Aq1185, cq1185, rfl, lq1182, hq1185⟩ := RDeriv.open hdq118
         replace s := s.ns 125 hq1185
         refine n_1 7 s (by kernel_rfl) rfl rfl (l_quiet s rfl rfl (y_ldp s rfl hlq118 hmq118 (by simpa using hcq118) underlying42 rfl rfl) fun a s => ?_); refine ⟨fun g _ h => h, ?_⟩
         refine n_1 16 s (by kernel_rfl) rfl rfl (l_store (n := 5) (cs' := [vI (x71.Kind), vT (x71.Name), vI (x71.From), vI (x71.To), sl Aq1185 (x71.Kids) cq1185]) s 2414 rfl rfl rfl rfl rfl rfl rfl rfl ?_); clear s; intro w hK s; replace hZ := Nat.le_trans hZ hK.size
         refine ⟨fun g _ h => h.app hR hK (fun x e => by cases e; exact hNb117), ?_⟩; clear hK
         refine n_1 17 s (by kernel_rfl) rfl rfl (l_store (n := 5) (cs' := [vI (x74.Kind), vT (x74.Name), vI (x74.From), vI (x74.To), sl Aq795 (x74.Kids) cq795]) s 2415 rfl rfl rfl rfl rfl rfl rfl rfl ?_); clear s; intro w hK s; replace hZ := Nat.le_trans hZ hK.size
         refine ⟨fun g _ h => h.app hR hK (fun x e => by cases e; exact hNb111), ?_⟩; clear hK
         refine n_end (by kernel_rfl) ?_; clear hR hZ hE
         apply pN
         replace s := s.al 111 125 rfl
         replace s := s.al 112 115 rfl
         exact ⟨(x71.Kind), (x71.Name), (x71.From), (x71.To), (x71.Kids), (x74.Kind), (x74.Name), (x74.From), (x74.To), (x74.Kids), (b117), (Aq1185), (cq1185), (b111), (Aq795), (cq795), hg, (by omega), (by omega), (s.sb rfl rfl rfl)⟩
       ·refine l_alloc (zs := [vI 0, vT ([]), vI 0, vI 0, .slice (none) (0) (0)]) s 2414 rfl rfl rfl rfl fun b119 a w hb hK s => ?_
        have hNb119 := Nat.le_trans hZ hb
        replace hE := hE.grow hK; replace hZ := Nat.le_trans hZ hK.size; refine ⟨fun g _ h => h.grow hK, ?_⟩; clear hK
        refine n_1 5 s (by kernel_rfl) rfl rfl (l_call (cap := []) s rfl func14 rfl (by kernel_rfl) rfl rfl (c_model_Best n _ _ s.lt (Model.mk b_38) (A39) (c40) (s.ft 108 rfl) x44.Readings (Aq481) (cq481) (s.ft 110 rfl) r67 hr67) fun v120 a w hK hp s => ?_)
        replace hE := hE.grow hK; replace hZ := Nat.le_trans hZ hK.size; refine ⟨fun g _ h => h.grow hK, ?_⟩; clear hK
        obtain rfl := hp
        obtain ⟨p122, hep122, hpp122⟩ := SlR.elemX (s.ft 110 rfl) (ix_some hx71).1
        refine n_1 6 s (by kernel_rfl) rfl rfl (l_quiet s rfl rfl (y_elem (sz := 5) (i := ((r67).toNat)) s rfl rfl underlying35 rfl hep122 (ix_some hx71).2.1 (lt_of_get (ix_some hx71).1)) fun a s => ?_); refine ⟨fun g _ h => h, ?_⟩
        obtain ⟨hlq123, hmq123, csq123, hdq123, hcq123⟩ := (SlR.again (s.ft 110 rfl) (ix_some hx71).1 hep122)
        obtain ⟨Aq1235, cq1235, rfl, lq1232, hq1235⟩ := RDeriv.open hdq123
        replace s := s.ns 126 hq1235
        refine n_1 7 s (by kernel_rfl) rfl rfl (l_quiet s rfl rfl (y_ldp s rfl hlq123 hmq123 (by simpa using hcq123) underlying42 rfl rfl) fun a s => ?_); refine ⟨fun g _ h => h, ?_⟩
        refine n_1 16 s (by kernel_rfl) rfl rfl (l_store (n := 5) (cs' := [vI (x71.Kind), vT (x71.Name), vI (x71.From), vI (x71.To), sl Aq1235 (x71.Kids) cq1235]) s 2414 rfl rfl rfl rfl rfl rfl rfl rfl ?_); clear s; intro w hK s; replace hZ := Nat.le_trans hZ hK.size
        refine ⟨fun g _ h => h.app hR hK (fun x e => by cases e; exact hNb119), ?_⟩; clear hK
        refine n_1 17 s (by kernel_rfl) rfl rfl (l_store (n := 5) (cs' := [vI (x74.Kind), vT (x74.Name), vI (x74.From), vI (x74.To), sl Aq795 (x74.Kids) cq795]) s 2415 rfl rfl rfl rfl rfl rfl rfl rfl ?_); clear s; intro w hK s; replace hZ := Nat.le_trans hZ hK.size
        refine ⟨fun g _ h => h.app hR hK (fun x e => by cases e; exact hNb111), ?_⟩; clear hK
        refine n_end (by kernel_rfl) ?_; clear hR hZ hE
        apply pN
        replace s := s.al 111 126 rfl
        replace s := s.al 112 115 rfl
        exact ⟨(x71.Kind), (x71.Name), (x71.From), (x71.To), (x71.Kids), (x74.Kind), (x74.Name), (x74.From), (x74.To), (x74.Kids), (b119), (Aq1235), (cq1235), (b111), (Aq795), (cq795), hg, (by omega), (by omega), (s.sb rfl rfl rfl)⟩
     clear s a; rintro a w ⟨t_52, t_53, t_54, t_55, t_56, t_60, t_61, t_62, t_63, t_64, b51, A57, c58, b59, A65, c66, hg, lt_53, lt_61, s⟩
     subst hk50
     apply wQ
     apply wQ
     obtain ⟨r124, hr124, hg⟩ := bind_some hg
     apply wL
     refine qq s rfl (y_loadAll (kk := 2414) s rfl rfl underlying42 rfl rfl) fun a s => ?_
     refine qq s rfl (y_loadAll (kk := 2415) s rfl rfl underlying42 rfl rfl) fun a s => ?_
     refine l_seq rfl (l_call (cap := []) s rfl func17 rfl (by kernel_rfl) rfl rfl (c_deriv_Compare n _ _ s.lt (Deriv.mk t_52 t_53 t_54 t_55 t_56) (A57) (c58) (by omega) (s.ft 111 rfl) (Deriv.mk t_60 t_61 t_62 t_63 t_64) (A65) (c66) (by omega) (s.ft 112 rfl) r124 hr124) fun v127 a w hK hp s => ?_)
     obtain rfl := hp
     refine qq s rfl (y_eql s rfl rfl) fun a s => ?_
     apply wN
     refine c_dec s rfl (fun hc129 => ?_) (fun hc129 => ?_)
     ·replace hg := br_t hg hc129
      apply wp_exit
      refine p_then ?_
      refine p_in ?_
      apply pN
      apply wL
      refine qq s rfl (y_addN (i := t_37) (j := 1) s rfl rfl (in64.2 (by omega))) fun a s => ?_
      refine mv s rfl rfl fun a s => ?_
      apply wN
      replace s := s.al 108 108 rfl
      exact ⟨m3, Nat.lt_succ_self _, ⟨(t_37 + 1), (b_38), (A39), (c40), hg, (s.sb rfl rfl rfl)⟩⟩
     replace hg := br_f hg hc129
     apply wp_skip
     apply pN
     apply wR
     refine l_seq rfl (l_makeMap (n := 0) s 2600 underlying49 (.inl rfl) rfl rfl fun b131 a w hb hK s => ?_)
     replace s := s.add 128 (kvF (Rep.num .i64) ([]) ([])) (KvRel.nil)
     refine asg s rfl rfl fun a s => ?_
     apply wN
     apply wQ
     apply wQ
     obtain ⟨r132, hr132, hg⟩ := bind_some hg
     apply wL
     refine qq s rfl (y_loadAll (kk := 2415) s rfl rfl underlying42 rfl rfl) fun a s => ?_
     refine l_seq rfl (l_call (cap := []) s rfl func13 rfl (by kernel_rfl) rfl rfl (c_model_Features n _ _ s.lt (Deriv.mk t_60 t_61 t_62 t_63 t_64) (A65) (c66) (by omega) (s.ft 112 rfl) r132 hr132) fun v135 a w hK hp s => ?_)
     obtain ⟨Au136a1, cu136a1, rfl, hu136a1⟩ := hp
     replace s := s.ns 130 hu136a1
     refine qq s rfl (y_lenSlice s rfl underlying44) fun a s => ?_
     refine mv s rfl rfl fun a s => ?_
     apply wN
     obtain ⟨k137, hg, hk137⟩ := jn_some hg
     refine c_post (fun a w => ∃ (t_138 : (List (List UInt8 × Int))) (kv139 : List (List UInt8 × Value)), k137 t_138 = some r ∧ St (⟨Tryz.f7.ntmps, M, noB, w0⟩ : Ctx) [(1, sl Ap11 (t_') cp11), (3, vP b3 0), (6, vP b4 0), (12, vP b51 0), (14, .map (some b131)), (45, vI (t_'')), (46, vI (((t_28 : Nat) : Int))), (48, sl Ap11 (t_') cp11), (49, vI ((((t_').length : Nat) : Int))), (50, vI (((t_37 : Nat) : Int)))] [(1000, Ob.box b3 [sl A39 (b_38) c40] 24), (1001, Ob.box b4 [.slice (none) (0) (0)] 24), (2414, Ob.box b51 [vI t_52, vT t_53, vI t_54, vI t_55, sl A57 (t_56) c58] 42), (2600, Ob.smap b131 (kv139))] [(102, slF RJudged (Ap11) ((t_').length) (cp11) (t_')), (108, slF RWeight (A39) ((b_38).length) (c40) (b_38)), (111, slF RDeriv (A57) ((t_56).length) (c58) (t_56)), (131, kvF (Rep.num .i64) (kv139) (t_138))] a w) ?_ ?_
     ·apply wp_block
      replace s := s.al 132 128 rfl
      refine c_loop (σ := Nat) (fun m4 a w => ∃ (t_140 : (List (List UInt8 × Int))) (t_142 : Nat) (kv141 : List (List UInt8 × Value)), model_Train_L3 n r132 k137 m4 t_140 t_142 = some r ∧ St (⟨Tryz.f7.ntmps, M, noB, w0⟩ : Ctx) [(1, sl Ap11 (t_') cp11), (3, vP b3 0), (6, vP b4 0), (12, vP b51 0), (14, .map (some b131)), (45, vI (t_'')), (46, vI (((t_28 : Nat) : Int))), (48, sl Ap11 (t_') cp11), (49, vI ((((t_').length : Nat) : Int))), (50, vI (((t_37 : Nat) : Int))), (74, sl Au136a1 (r132) cu136a1), (75, vI ((((r132).length : Nat) : Int))), (76, vI (((t_142 : Nat) : Int)))] [(1000, Ob.box b3 [sl A39 (b_38) c40] 24), (1001, Ob.box b4 [.slice (none) (0) (0)] 24), (2414, Ob.box b51 [vI t_52, vT t_53, vI t_54, vI t_55, sl A57 (t_56) c58] 42), (2600, Ob.smap b131 (kv141))] [(102, slF RJudged (Ap11) ((t_').length) (cp11) (t_')), (108, slF RWeight (A39) ((b_38).length) (c40) (b_38)), (111, slF RDeriv (A57) ((t_56).length) (c58) (t_56)), (130, slF Rep.str (Au136a1) ((r132).length) (cu136a1) (r132)), (132, kvF (Rep.num .i64) (kv141) (t_140))] a w) (fun m4 => m4) n ⟨([]), (0), ([]), hg, (s.sb rfl rfl rfl)⟩ ?_
      clear s a; rintro m4 a w ⟨t_140, t_142, kv141, hg, s⟩
      rcases m4 with _ | m4
      ·rw [model_Train_L3] at hg; cases hg
      rw [model_Train_L3] at hg
      apply wR
      refine qq s rfl (y_lssN (i := t_142) (j := ((r132).length)) s rfl rfl) fun a s => ?_
      apply wN
      apply wQ
      refine c_dec s rfl (fun hc143 => ?_) (fun hc143 => ?_)
      ·replace hg := br_t hg hc143
       have hmx144 := SlR.mx (s.ft 130 rfl)
       apply wp_skip
       apply pN
       apply wQ
       apply wp_block
       apply wQ
       obtain ⟨x146, hx146, hg⟩ := bind_some hg
       apply wL
       obtain ⟨p148, hep148, hpp148⟩ := SlR.elemX (s.ft 130 rfl) hx146
       refine qq s rfl (y_elem (sz := 1) (i := t_142) s rfl rfl underlying44 rfl hep148 rfl (lt_of_get hx146)) fun a s => ?_
       obtain ⟨hlq149, hmq149, csq149, hdq149, hcq149⟩ := hpp148
       obtain ⟨rfl, lq1491⟩ := hdq149
       refine qq s rfl (y_ldp1 s rfl hlq149 hmq149 (hcq149 0 _ rfl) underlying9 rfl) fun a s => ?_
       refine asg s rfl rfl fun a s => ?_
       apply wN
       obtain ⟨hk151, hg⟩ := chk_some hg
       apply wL
       refine mv s rfl rfl fun a s => ?_
       refine mv s rfl rfl fun a s => ?_
       have hm152 := kvF_getD (R := (Rep.num .i64)) (k := x146) (z := vI 0) (zx := 0) (s.ft 132 rfl) (by exact rfl)
       have em152 := hm152
       refine qq s rfl (y_lookupV (kk := 2600) s rfl rfl rfl underlying49 underlying9 rfl em152) fun a s => ?_
       refine qq s rfl (y_add s rfl rfl (in64.2 hk151)) fun a s => ?_
       refine l_seq rfl (l_mapUpdate s 2600 rfl rfl rfl rfl underlying49 underlying9 fun w hK s => ?_)
       replace s := s.add 134 (kvF (Rep.num .i64) (mset (kv141) (x146) (vI (((mget t_140 x146).getD 0) + 1))) (mset (t_140) (x146) (((mget t_140 x146).getD 0) + 1))) (kvF_set (s.ft 132 rfl) (by exact rfl))
       apply wO
       refine p_inN ?_
       apply pN
       apply wL
       refine qq s rfl (y_addN (i := t_142) (j := 1) s rfl rfl (in64.2 (by omega))) fun a s => ?_
       refine mv s rfl rfl fun a s => ?_
       apply wN
       replace s := s.add 132 (kvF (Rep.num .i64) (mset (kv141) (x146) (vI (((mget t_140 x146).getD 0) + 1))) (mset (t_140) (x146) (((mget t_140 x146).getD 0) + 1))) (s.ft 134 rfl)
       exact ⟨m4, Nat.lt_succ_self _, ⟨(mset (t_140) (x146) (((mget t_140 x146).getD 0) + 1)), (t_142 + 1), (mset (kv141) (x146) (vI (((mget t_140 x146).getD 0) + 1))), hg, (s.sb rfl rfl rfl)⟩⟩
      replace hg := br_f hg hc143
      apply wp_exit
      refine p_then ?_
      refine p_then ?_
      refine p_in ?_
      apply pN
      replace s := s.al 131 132 rfl
      exact ⟨(t_140), (kv141), hg, (s.sb rfl rfl rfl)⟩
     clear s a; rintro a w ⟨t_138, kv139, hg, s⟩
     subst hk137
     apply wQ
     apply wQ
     obtain ⟨r153, hr153, hg⟩ := bind_some hg
     apply wL
     refine qq s rfl (y_loadAll (kk := 2414) s rfl rfl underlying42 rfl rfl) fun a s => ?_
     refine l_seq rfl (l_call (cap := []) s rfl func13 rfl (by kernel_rfl) rfl rfl (c_model_Features n _ _ s.lt (Deriv.mk t_52 t_53 t_54 t_55 t_56) (A57) (c58) (by omega) (s.ft 111 rfl) r153 hr153) fun v156 a w hK hp s => ?_)
     obtain ⟨Au157a1, cu157a1, rfl, hu157a1⟩ := hp
     replace s := s.ns 136 hu157a1
     refine qq s rfl (y_lenSlice s rfl underlying44) fun a s => ?_
     refine mv s rfl rfl fun a s => ?_
     apply wN
     obtain ⟨k158, hg, hk158⟩ := jn_some hg
     refine c_post (fun a w => ∃ (t_159 : (List (List UInt8 × Int))) (kv160 : List (List UInt8 × Value)), k158 t_159 = some r ∧ St (⟨Tryz.f7.ntmps, M, noB, w0⟩ : Ctx) [(1, sl Ap11 (t_') cp11), (3, vP b3 0), (6, vP b4 0), (14, .map (some b131)), (45, vI (t_'')), (46, vI (((t_28 : Nat) : Int))), (48, sl Ap11 (t_') cp11), (49, vI ((((t_').length : Nat) : Int))), (50, vI (((t_37 : Nat) : Int)))] [(1000, Ob.box b3 [sl A39 (b_38) c40] 24), (1001, Ob.box b4 [.slice (none) (0) (0)] 24), (2600, Ob.smap b131 (kv160))] [(102, slF RJudged (Ap11) ((t_').length) (cp11) (t_')), (108, slF RWeight (A39) ((b_38).length) (c40) (b_38)), (137, kvF (Rep.num .i64) (kv160) (t_159))] a w) ?_ ?_
     ·apply wp_block
      replace s := s.al 138 131 rfl
      refine c_loop (σ := Nat) (fun m5 a w => ∃ (t_161 : (List (List UInt8 × Int))) (t_163 : Nat) (kv162 : List (List UInt8 × Value)), model_Train_L4 n r153 k158 m5 t_161 t_163 = some r ∧ St (⟨Tryz.f7.ntmps, M, noB, w0⟩ : Ctx) [(1, sl Ap11 (t_') cp11), (3, vP b3 0), (6, vP b4 0), (14, .map (some b131)), (45, vI (t_'')), (46, vI (((t_28 : Nat) : Int))), (48, sl Ap11 (t_') cp11), (49, vI ((((t_').length : Nat) : Int))), (50, vI (((t_37 : Nat) : Int))), (86, sl Au157a1 (r153) cu157a1), (87, vI ((((r153).length : Nat) : Int))), (88, vI (((t_163 : Nat) : Int)))] [(1000, Ob.box b3 [sl A39 (b_38) c40] 24), (1001, Ob.box b4 [.slice (none) (0) (0)] 24), (2600, Ob.smap b131 (kv162))] [(102, slF RJudged (Ap11) ((t_').length) (cp11) (t_')), (108, slF RWeight (A39) ((b_38).length) (c40) (b_38)), (136, slF Rep.str (Au157a1) ((r153).length) (cu157a1) (r153)), (138, kvF (Rep.num .i64) (kv162) (t_161))] a w) (fun m5 => m5) n ⟨(t_138), (0), (kv139), hg, (s.sb rfl rfl rfl)⟩ ?_
      clear s a; rintro m5 a w ⟨t_161, t_163, kv162, hg, s⟩
      rcases m5 with _ | m5
      ·rw [model_Train_L4] at hg; cases hg
      rw [model_Train_L4] at hg
      apply wR
      refine qq s rfl (y_lssN (i := t_163) (j := ((r153).length)) s rfl rfl) fun a s => ?_
      apply wN
      apply wQ
      refine c_dec s rfl (fun hc164 => ?_) (fun hc164 => ?_)
      ·replace hg := br_t hg hc164
       have hmx165 := SlR.mx (s.ft 136 rfl)
       apply wp_skip
       apply pN
       apply wQ
       apply wp_block
       apply wQ
       obtain ⟨x167, hx167, hg⟩ := bind_some hg
       apply wL
       obtain ⟨p169, hep169, hpp169⟩ := SlR.elemX (s.ft 136 rfl) hx167
       refine qq s rfl (y_elem (sz := 1) (i := t_163) s rfl rfl underlying44 rfl hep169 rfl (lt_of_get hx167)) fun a s => ?_
       obtain ⟨hlq170, hmq170, csq170, hdq170, hcq170⟩ := hpp169
       obtain ⟨rfl, lq1701⟩ := hdq170
       refine qq s rfl (y_ldp1 s rfl hlq170 hmq170 (hcq170 0 _ rfl) underlying9 rfl) fun a s => ?_
       refine asg s rfl rfl fun a s => ?_
       apply wN
       obtain ⟨hk172, hg⟩ := chk_some hg
       apply wL
       refine mv s rfl rfl fun a s => ?_
       refine mv s rfl rfl fun a s => ?_
       have hm173 := kvF_getD (R := (Rep.num .i64)) (k := x167) (z := vI 0) (zx := 0) (s.ft 138 rfl) (by exact rfl)
       have em173 := hm173
       refine qq s rfl (y_lookupV (kk := 2600) s rfl rfl rfl underlying49 underlying9 rfl em173) fun a s => ?_
       refine qq s rfl (y_sub s rfl rfl (in64.2 hk172)) fun a s => ?_
       refine l_seq rfl (l_mapUpdate s 2600 rfl rfl rfl rfl underlying49 underlying9 fun w hK s => ?_)
       replace s := s.add 140 (kvF (Rep.num .i64) (mset (kv162) (x167) (vI (((mget t_161 x167).getD 0) - 1))) (mset (t_161) (x167) (((mget t_161 x167).getD 0) - 1))) (kvF_set (s.ft 138 rfl) (by exact rfl))
       apply wO
       refine p_inN ?_
       apply pN
       apply wL
       refine qq s rfl (y_addN (i := t_163) (j := 1) s rfl rfl (in64.2 (by omega))) fun a s => ?_
       refine mv s rfl rfl fun a s => ?_
       apply wN
       replace s := s.add 138 (kvF (Rep.num .i64) (mset (kv162) (x167) (vI (((mget t_161 x167).getD 0) - 1))) (mset (t_161) (x167) (((mget t_161 x167).getD 0) - 1))) (s.ft 140 rfl)
       exact ⟨m5, Nat.lt_succ_self _, ⟨(mset (t_161) (x167) (((mget t_161 x167).getD 0) - 1)), (t_163 + 1), (mset (kv162) (x167) (vI (((mget t_161 x167).getD 0) - 1))), hg, (s.sb rfl rfl rfl)⟩⟩
      replace hg := br_f hg hc164
      apply wp_exit
      refine p_then ?_
      refine p_then ?_
      refine p_in ?_
      apply pN
      replace s := s.al 137 138 rfl
      exact ⟨(t_161), (kv162), hg, (s.sb rfl rfl rfl)⟩
     clear s a; rintro a w ⟨t_159, kv160, hg, s⟩
     subst hk158
     obtain ⟨r174, hr174, hg⟩ := bind_some hg
     apply wL
     refine qq s rfl (y_loadAll (kk := 1000) s rfl rfl underlying24 rfl rfl) fun a s => ?_
     refine mv s rfl rfl fun a s => ?_
     replace s := s.freezeMapR (R := (Rep.num .i64)) (L' := [(1000, Ob.box b3 [sl A39 (b_38) c40] 24), (1001, Ob.box b4 [.slice (none) (0) (0)] 24)]) 143 2600 rfl (s.ft 137 rfl) ⟨rfl, rfl, trivial⟩ rfl
     refine l_seq rfl (l_call (cap := []) s rfl func18 rfl (by kernel_rfl) rfl rfl (c_model_learned n _ _ s.lt (Model.mk b_38) (A39) (c40) (s.ft 108 rfl) t_159 b131 (s.ft 143 rfl) r174 hr174) fun v177 a w hK hp s => ?_)
     obtain ⟨Au178a1, cu178a1, rfl, hu178a1⟩ := hp
     replace s := s.ns 144 hu178a1
     refine l_seq rfl (l_store (n := 1) (cs' := [sl Au178a1 (r174.Weights) cu178a1]) s 1000 rfl rfl rfl rfl rfl rfl rfl rfl ?_); clear s; intro w hK s; clear hK
     apply wO
     refine p_inN ?_
     apply pN
     apply wL
     refine qq s rfl (y_addN (i := t_37) (j := 1) s rfl rfl (in64.2 (by omega))) fun a s => ?_
     refine mv s rfl rfl fun a s => ?_
     apply wN
     replace s := s.al 108 144 rfl
     exact ⟨m3, Nat.lt_succ_self _, ⟨(t_37 + 1), (r174.Weights), (Au178a1), (cu178a1), hg, (s.sb rfl rfl rfl)⟩⟩
    replace hg := br_f hg hc41
    apply wp_exit
    refine p_then ?_
    refine p_then ?_
    refine p_in ?_
    refine p_inN ?_
    apply pN
    replace s := s.al 107 108 rfl
    exact ⟨(b_38), (A39), (c40), hg, (s.sb rfl rfl rfl)⟩
   clear s a; rintro a w ⟨b_34, A35, c36, hg, s⟩
   subst hk33
   obtain ⟨hk179, hg⟩ := chk_some hg
   apply wL
   refine qq s rfl (y_addN (i := t_28) (j := 1) s rfl rfl (in64.2 (by omega))) fun a s => ?_
   refine mv s rfl rfl fun a s => ?_
   apply wN
   replace s := s.al 106 107 rfl
   exact ⟨m2, Nat.lt_succ_self _, ⟨(t_28 + 1), (b_34), (A35), (c36), hg, (s.sb rfl rfl rfl)⟩⟩
  replace hg := br_f hg hc32
  apply wp_exit
  refine p_then ?_
  refine p_then ?_
  refine p_in ?_
  apply pN
  replace s := s.al 105 106 rfl
  exact ⟨(b_29), (A30), (c31), hg, (s.sb rfl rfl rfl)⟩
 clear s a; rintro a w ⟨b_25, A26, c27, hg, s⟩
 subst hk24
 apply wR
 refine qq s rfl (y_loadAll (kk := 1000) s rfl rfl underlying24 rfl rfl) fun a s => ?_
 refine l_seq rfl (l_store (n := 1) (cs' := [sl A26 (b_25) c27]) s 1001 rfl rfl rfl rfl rfl rfl rfl rfl ?_); clear s; intro w hK s; clear hK
 refine asg s rfl rfl fun a s => ?_
 apply wN
 apply wp_ret
 obtain rfl := Option.some.inj hg
 refine fin2 (fn := Tryz.f7) s rfl (r_cell (kk := 1001) (n := 1) (vs := [sl A26 (b_25) c27]) s rfl rfl underlying24 rfl rfl rfl rfl) (r_tmp s rfl) ?_
 exact ⟨(A26), (c27), rfl, (s.out (k := 105) rfl)⟩
end Go.Proofs.YthgdajiipojnoaaGreatDoor
