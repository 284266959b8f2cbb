/- Chapter 37: the walks, part 10 -/
import Derived.Test.YthgdajiipojnoaaGreatDoorW9
namespace Go.Proofs.YthgdajiipojnoaaGreatDoor
open Go.Gl Go.RowKit Tryz
set_option linter.unusedVariables false
set_option linter.unusedSimpArgs false
set_option maxRecDepth 4000

set_option maxHeartbeats 400000 in
theorem c_r37_Train (n : Nat) (M : Bs) (w0 : World) (hM : ∀ b, M b → b < w0.heap.size) (m_ : Model) (Ap01 : Option Addr) (cp01 : Nat) (hp01 : SlR RWeight M w0 Ap01 (m_.Weights).length cp01 (m_.Weights)) (l_ : (List Judged)) (Ap11 : Option Addr) (cp11 : Nat) (hp11 : SlR RJudged M w0 Ap11 (l_).length cp11 (l_)) (rounds_ : Int) (r : (Model × Int)) (hg : r37_Train n m_ l_ rounds_ = some r) :
    Calls Tryz.prog 8 [.agg #[.slice (Ap01) ((m_.Weights).length) (cp01)], .slice (Ap11) ((l_).length) (cp11), .int .i64 (rounds_)].toArray w0 (Ret noB w0 fun v w => ∃ (Aa1 : Option Addr), ∃ (ca1 : Nat), v = .tuple #[.agg #[.slice (Aa1) ((r.1.Weights).length) (ca1)], .int .i64 (r.2)] ∧ (SlR RWeight M w Aa1 (r.1.Weights).length ca1 (r.1.Weights))) := by
 unfold r37_Train at hg
 refine enter M noB func8 rfl rfl hM ?_
 intro a s
 replace s := s.es 101 hp01
 replace s := s.es 102 hp11
 apply wR
 refine l_seq rfl (l_box (zs := [sl Ap01 (m_.Weights) cp01]) s 1000 rfl rfl rfl rfl fun b3 a w hb hK s => ?_)
 refine l_seq rfl (l_alloc (zs := [.slice (none) (0) (0)]) s 1001 rfl rfl rfl rfl fun b4 a w hb hK s => ?_)
 refine asg s rfl rfl fun a s => ?_
 apply wN
 apply wQ
 apply wQ
 obtain ⟨k5, hg, hk5⟩ := jn_some hg
 refine c_post (fun a w => ∃ (t_6 : Bool), k5 t_6 = some r ∧ St (⟨Tryz.f8.ntmps, M, noB, w0⟩ : Ctx) [(1, sl Ap11 (l_) cp11), (2, vI rounds_), (3, vP b3 0), (6, vP b4 0), (16, .bool (t_6))] [(1000, Ob.box b3 [sl Ap01 (m_.Weights) cp01] 24), (1001, Ob.box b4 [.slice (none) (0) (0)] 24)] [(101, slF RWeight (Ap01) ((m_.Weights).length) (cp01) (m_.Weights)), (102, slF RJudged (Ap11) ((l_).length) (cp11) (l_))] a w) ?_ ?_
 ·rcases Decidable.em (rounds_ < 0) with hs7 | hs7
  ·have hs7e := decide_eq_true hs7
   replace hg := br_t hg hs7
   apply wL
   refine mv s rfl rfl fun a s => ?_
   refine qq s rfl (yl_b (y_lss s rfl rfl) hs7e) fun a s => ?_
   refine mv s rfl rfl fun a s => ?_
   refine gn s rfl fun a s => ?_
   refine gn s rfl fun a s => ?_
   refine qq s rfl (y_pick_t s rfl rfl) fun a s => ?_
   apply wN
   exact ⟨(true), hg, (s.sb rfl rfl rfl)⟩
  have hs7e := decide_eq_false hs7
  replace hg := br_f hg hs7
  apply wL
  refine mv s rfl rfl fun a s => ?_
  refine qq s rfl (yl_b (y_lss s rfl rfl) hs7e) fun a s => ?_
  refine mv s rfl rfl fun a s => ?_
  refine gm s rfl rfl fun a s => ?_
  refine gy s rfl (y_gtr s rfl rfl) fun a s => ?_
  refine qq s rfl (y_pick_f s rfl rfl) fun a s => ?_
  apply wN
  exact ⟨(decide ((16 : Int) < rounds_)), hg, (s.sb rfl rfl rfl)⟩
 clear s a; rintro a w ⟨t_6, hg, s⟩
 subst hk5
 refine c_cond s rfl (fun hc8 => ?_) (fun hc8 => ?_)
 ·replace hg := br_t hg hc8
  apply wR
  refine qq s rfl (y_build (parts := []) (ps := []) (cells := #[.slice (none) (0) (0)]) s rfl (by kernel_rfl)) fun a s => ?_
  refine l_seq rfl (l_store (n := 1) (cs' := [.slice (none) (0) (0)]) s 1001 rfl rfl rfl rfl rfl rfl rfl rfl ?_); clear s; intro w hK s; clear hK
  refine asg s rfl rfl fun a s => ?_
  apply wN
  apply wp_ret
  refine p_thenR ?_
  obtain rfl := Option.some.inj hg
  refine fin2 (fn := Tryz.f8) s rfl (r_cell (kk := 1001) (n := 1) (vs := [.slice (none) (0) (0)]) s rfl rfl underlying24 rfl rfl rfl rfl) (r_tmp s rfl) ?_
  exact ⟨(none), (0), rfl, (SlR.nil_ _ _ _)⟩
 replace hg := br_n hg hc8
 apply wp_skip
 apply pN
 apply wQ
 apply wR
 refine asg s rfl rfl fun a s => ?_
 apply wN
 obtain ⟨k9, hg, hk9⟩ := jn_some hg
 refine c_post (fun a w => k9 = some r ∧ St (⟨Tryz.f8.ntmps, M, noB, w0⟩ : Ctx) [(1, sl Ap11 (l_) cp11), (2, vI rounds_), (3, vP b3 0), (6, vP b4 0)] [(1000, Ob.box b3 [sl Ap01 (m_.Weights) cp01] 24), (1001, Ob.box b4 [.slice (none) (0) (0)] 24)] [(101, slF RWeight (Ap01) ((m_.Weights).length) (cp01) (m_.Weights)), (102, slF RJudged (Ap11) ((l_).length) (cp11) (l_))] a w) ?_ ?_
 ·apply wp_block
  refine c_loop (σ := Nat) (fun m1 a w => ∃ (i_10 : Nat), r37_Train_L0 n l_ k9 m1 i_10 = some r ∧ St (⟨Tryz.f8.ntmps, M, noB, w0⟩ : Ctx) [(1, sl Ap11 (l_) cp11), (2, vI rounds_), (3, vP b3 0), (6, vP b4 0), (8, vI (((i_10 : Nat) : Int)))] [(1000, Ob.box b3 [sl Ap01 (m_.Weights) cp01] 24), (1001, Ob.box b4 [.slice (none) (0) (0)] 24)] [(101, slF RWeight (Ap01) ((m_.Weights).length) (cp01) (m_.Weights)), (102, slF RJudged (Ap11) ((l_).length) (cp11) (l_))] a w) (fun m1 => m1) n ⟨(0), hg, (s.sb rfl rfl rfl)⟩ ?_
  clear s a; rintro m1 a w ⟨i_10, hg, s⟩
  rcases m1 with _ | m1
  ·rw [r37_Train_L0] at hg; cases hg
  rw [r37_Train_L0] at hg
  apply wQ
  apply wR
  refine mv s rfl rfl fun a s => ?_
  refine mv s rfl rfl fun a s => ?_
  refine qq s rfl (y_lenSlice s rfl underlying25) fun a s => ?_
  refine qq s rfl (y_lssN (i := i_10) (j := ((l_).length)) s rfl rfl) fun a s => ?_
  apply wN
  refine c_dec s rfl (fun hc11 => ?_) (fun hc11 => ?_)
  ·replace hg := br_t hg hc11
   have hmx12 := SlR.mx (s.ft 102 rfl)
   apply wp_skip
   apply pN
   apply wQ
   apply wp_block
   apply wQ
   obtain ⟨k13, hg, hk13⟩ := jn_some hg
   refine c_post (fun a w => ∃ (t_14 : Bool), k13 t_14 = some r ∧ St (⟨Tryz.f8.ntmps, M, noB, w0⟩ : Ctx) [(1, sl Ap11 (l_) cp11), (2, vI rounds_), (3, vP b3 0), (6, vP b4 0), (8, vI (((i_10 : Nat) : Int))), (43, .bool (t_14))] [(1000, Ob.box b3 [sl Ap01 (m_.Weights) cp01] 24), (1001, Ob.box b4 [.slice (none) (0) (0)] 24)] [(101, slF RWeight (Ap01) ((m_.Weights).length) (cp01) (m_.Weights)), (102, slF RJudged (Ap11) ((l_).length) (cp11) (l_))] a w) ?_ ?_
   ·obtain ⟨x16, hx16, hg⟩ := bind_some hg
    rcases Decidable.em (x16.Gold < 0) with hs18 | hs18
    ·have hs18e := decide_eq_true hs18
     replace hg := br_t hg hs18
     refine d_plan s [] [(0, some 0), (1, some 0), (2, some 0), (3, some 0), (4, some 0), (5, some 0), (6, some 0), (7, some 0), (8, some 0), (9, some 0), (10, some 0), (11, some 0), (12, some 0), (13, some 0), (14, some 0), (15, some 0), (16, some 0), (17, some 0), (18, some 0), (19, some 0)] rfl (by kernel_rfl) (by kernel_rfl) rfl ?_; clear s; intro wr hZ s; have hR := s.wd
     refine qt s hR rfl (y_move s rfl) fun a s => ?_
     refine qt s hR rfl (y_move s rfl) fun a s => ?_
     obtain ⟨p19, hep19, hpp19⟩ := SlR.elemX (s.ft 102 rfl) hx16
     refine qt s hR rfl (y_elem (sz := 2) (i := i_10) s rfl rfl underlying25 rfl hep19 rfl (lt_of_get hx16)) fun a s => ?_
     refine qt s hR rfl (y_ptrField (o' := 1) s rfl underlying37 rfl rfl rfl) fun a s => ?_
     obtain ⟨hlq20, hmq20, csq20, hdq20, hcq20⟩ := hpp19
     obtain ⟨Aq201, cq201, rfl, hq201⟩ := RJudged.open hdq20
     replace s := s.ns 104 hq201
     refine qt s hR rfl (y_ldp1 s rfl hlq20 hmq20 (hcq20 1 _ rfl) underlying3 rfl) fun a s => ?_
     refine qt s hR rfl (yl_b (y_lss s rfl rfl) hs18e) fun a s => ?_
     refine qt s hR rfl (y_move s rfl) fun a s => ?_
     refine q_pass s hR rfl rfl ⟨_, _, _, rfl, rfl, rfl, rfl⟩ rfl fun a s => ?_
     refine q_pass s hR rfl rfl ⟨_, _, _, rfl, rfl, rfl, rfl⟩ rfl fun a s => ?_
     refine q_pass s hR rfl rfl ⟨_, _, _, rfl, rfl, rfl, rfl⟩ rfl fun a s => ?_
     refine q_pass s hR rfl rfl ⟨_, _, _, rfl, rfl, rfl, rfl⟩ rfl fun a s => ?_
     refine q_pass s hR rfl rfl ⟨_, _, _, rfl, rfl, rfl, rfl⟩ rfl fun a s => ?_
     refine q_pass s hR rfl rfl ⟨_, _, _, rfl, rfl, rfl, rfl⟩ rfl fun a s => ?_
     refine q_pass s hR rfl rfl ⟨_, _, _, rfl, rfl, rfl, rfl⟩ rfl fun a s => ?_
     refine q_pass s hR rfl rfl ⟨_, _, _, rfl, rfl, rfl, rfl⟩ rfl fun a s => ?_
     refine q_pass s hR rfl rfl ⟨_, _, _, rfl, rfl, rfl, rfl⟩ rfl fun a s => ?_
     refine q_pass s hR rfl rfl ⟨_, _, _, rfl, rfl, rfl, rfl⟩ rfl fun a s => ?_
     refine q_pass s hR rfl rfl ⟨_, _, _, rfl, rfl, rfl, rfl⟩ rfl fun a s => ?_
     refine q_pass s hR rfl rfl ⟨_, _, _, rfl, rfl, rfl, rfl⟩ rfl fun a s => ?_
     refine qt s hR rfl (y_pick_t s rfl rfl) fun a s => ?_
     clear hR hZ
     apply pN
     exact ⟨(true), hg, (s.sb rfl rfl rfl)⟩
    have hs18e := decide_eq_false hs18
    replace hg := br_f hg hs18
    refine d_plan s [] [(0, some 0), (1, some 0), (2, some 0), (3, some 0), (4, some 0), (5, some 0), (6, some 0), (7, some 0), (8, some 0), (9, some 0), (10, some 0), (11, some 0), (12, some 0), (13, some 0), (14, some 0), (15, some 0), (16, some 0), (17, some 0), (18, some 0), (19, some 0)] rfl (by kernel_rfl) (by kernel_rfl) rfl ?_; clear s; intro wr hZ s; have hR := s.wd
    refine qt s hR rfl (y_move s rfl) fun a s => ?_
    refine qt s hR rfl (y_move s rfl) fun a s => ?_
    obtain ⟨p25, hep25, hpp25⟩ := SlR.elemX (s.ft 102 rfl) hx16
    refine qt s hR rfl (y_elem (sz := 2) (i := i_10) s rfl rfl underlying25 rfl hep25 rfl (lt_of_get hx16)) fun a s => ?_
    refine qt s hR rfl (y_ptrField (o' := 1) s rfl underlying37 rfl rfl rfl) fun a s => ?_
    obtain ⟨hlq26, hmq26, csq26, hdq26, hcq26⟩ := hpp25
    obtain ⟨Aq261, cq261, rfl, hq261⟩ := RJudged.open hdq26
    replace s := s.ns 107 hq261
    refine qt s hR rfl (y_ldp1 s rfl hlq26 hmq26 (hcq26 1 _ rfl) underlying3 rfl) fun a s => ?_
    refine qt s hR rfl (yl_b (y_lss s rfl rfl) hs18e) fun a s => ?_
    refine qt s hR rfl (y_move s rfl) fun a s => ?_
    refine qg s hR rfl (y_move s rfl) fun a s => ?_
    refine qg s hR rfl (y_move s rfl) fun a s => ?_
    obtain ⟨p27, hep27, hpp27⟩ := SlR.elemX (s.ft 102 rfl) hx16
    refine qg s hR rfl (y_elem (sz := 2) (i := i_10) s rfl rfl underlying25 rfl hep27 rfl (lt_of_get hx16)) fun a s => ?_
    refine qg s hR rfl (y_ptrField (o' := 1) s rfl underlying37 rfl rfl rfl) fun a s => ?_
    obtain ⟨hlq28, hmq28, csq28, hdq28, hcq28⟩ := hpp27
    obtain ⟨Aq281, cq281, rfl, hq281⟩ := RJudged.open hdq28
    replace s := s.ns 108 hq281
    refine qg s hR rfl (y_ldp1 s rfl hlq28 hmq28 (hcq28 1 _ rfl) underlying3 rfl) fun a s => ?_
    refine qg s hR rfl (y_move s rfl) fun a s => ?_
    refine qg s hR rfl (y_move s rfl) fun a s => ?_
    obtain ⟨p29, hep29, hpp29⟩ := SlR.elemX (s.ft 102 rfl) hx16
    refine qg s hR rfl (y_elem (sz := 2) (i := i_10) s rfl rfl underlying25 rfl hep29 rfl (lt_of_get hx16)) fun a s => ?_
    refine qg s hR rfl (y_ptrField (o' := 0) s rfl underlying37 rfl rfl rfl) fun a s => ?_
    obtain ⟨hlq30, hmq30, csq30, hdq30, hcq30⟩ := hpp29
    obtain ⟨Aq301, cq301, rfl, hq301⟩ := RJudged.open hdq30
    replace s := s.ns 109 hq301
    refine qg s hR rfl (y_ldp1 s rfl hlq30 hmq30 (hcq30 0 _ rfl) underlying35 rfl) fun a s => ?_
    refine qg s hR rfl (y_lenSlice s rfl underlying35) fun a s => ?_
    refine qg s hR rfl (y_geq s rfl rfl) fun a s => ?_
    refine qt s hR rfl (y_pick_f s rfl rfl) fun a s => ?_
    clear hR hZ
    apply pN
    exact ⟨(decide ((((x16.Readings).length : Nat) : Int) ≤ x16.Gold)), hg, (s.sb rfl rfl rfl)⟩
   clear s a; rintro a w ⟨t_14, hg, s⟩
   subst hk13
   refine c_cond s rfl (fun hc31 => ?_) (fun hc31 => ?_)
   ·replace hg := br_t hg hc31
    apply wR
    refine qq s rfl (y_build (parts := []) (ps := []) (cells := #[.slice (none) (0) (0)]) s rfl (by kernel_rfl)) fun a s => ?_
    refine l_seq rfl (l_store (n := 1) (cs' := [.slice (none) (0) (0)]) s 1001 rfl rfl rfl rfl rfl rfl rfl rfl ?_); clear s; intro w hK s; clear hK
    refine asg s rfl rfl fun a s => ?_
    apply wN
    apply wp_ret
    refine p_inR ?_
    refine p_thenR ?_
    refine p_thenR ?_
    refine p_inR ?_
    refine p_thenR ?_
    obtain rfl := Option.some.inj hg
    refine fin2 (fn := Tryz.f8) s rfl (r_cell (kk := 1001) (n := 1) (vs := [.slice (none) (0) (0)]) s rfl rfl underlying24 rfl rfl rfl rfl) (r_tmp s rfl) ?_
    exact ⟨(none), (0), rfl, (SlR.nil_ _ _ _)⟩
   replace hg := br_n hg hc31
   apply wp_skip
   refine p_inN ?_
   apply pN
   apply wL
   refine mv s rfl rfl fun a s => ?_
   refine qq s rfl (y_addN (i := i_10) (j := 1) s rfl rfl (in64.2 (by omega))) fun a s => ?_
   refine asg s rfl rfl fun a s => ?_
   apply wN
   exact ⟨m1, Nat.lt_succ_self _, ⟨(i_10 + 1), hg, (s.sb rfl rfl rfl)⟩⟩
  replace hg := br_f hg hc11
  apply wp_exit
  refine p_then ?_
  refine p_then ?_
  refine p_in ?_
  apply pN
  exact ⟨hg, (s.sb rfl rfl rfl)⟩
 clear s a; rintro a w ⟨hg, s⟩
 subst hk9
 apply wQ
 apply wR
 refine asg s rfl rfl fun a s => ?_
 apply wN
 obtain ⟨k32, hg, hk32⟩ := jn_some hg
 refine c_post (fun a w => ∃ (m_33 : (List Weight)) (A34 : Option Addr) (c35 : Nat), k32 m_33 = some r ∧ St (⟨Tryz.f8.ntmps, M, noB, w0⟩ : Ctx) [(3, vP b3 0), (6, vP b4 0)] [(1000, Ob.box b3 [sl A34 (m_33) c35] 24), (1001, Ob.box b4 [.slice (none) (0) (0)] 24)] [(110, slF RWeight (A34) ((m_33).length) (c35) (m_33))] a w) ?_ ?_
 ·apply wp_block
  replace s := s.al 111 101 rfl
  refine c_loop (σ := Nat) (fun m2 a w => ∃ (r_36 : Nat) (m_37 : (List Weight)) (A38 : Option Addr) (c39 : Nat), r37_Train_L1 n l_ rounds_ k32 m2 r_36 m_37 = some r ∧ St (⟨Tryz.f8.ntmps, M, noB, w0⟩ : Ctx) [(1, sl Ap11 (l_) cp11), (2, vI rounds_), (3, vP b3 0), (6, vP b4 0), (9, vI (((r_36 : Nat) : Int)))] [(1000, Ob.box b3 [sl A38 (m_37) c39] 24), (1001, Ob.box b4 [.slice (none) (0) (0)] 24)] [(102, slF RJudged (Ap11) ((l_).length) (cp11) (l_)), (111, slF RWeight (A38) ((m_37).length) (c39) (m_37))] a w) (fun m2 => m2) n ⟨(0), (m_.Weights), (Ap01), (cp01), hg, (s.sb rfl rfl rfl)⟩ ?_
  clear s a; rintro m2 a w ⟨r_36, m_37, A38, c39, hg, s⟩
  rcases m2 with _ | m2
  ·rw [r37_Train_L1] at hg; cases hg
  rw [r37_Train_L1] at hg
  apply wQ
  apply wR
  refine mv s rfl rfl fun a s => ?_
  refine mv s rfl rfl fun a s => ?_
  refine qq s rfl (y_lss s rfl rfl) fun a s => ?_
  apply wN
  refine c_dec s rfl (fun hc40 => ?_) (fun hc40 => ?_)
  ·replace hg := br_t hg hc40
   apply wp_skip
   apply pN
   apply wQ
   obtain ⟨k41, hg, hk41⟩ := jn_some hg
   refine c_post (fun a w => ∃ (m_42 : (List Weight)) (A43 : Option Addr) (c44 : Nat), k41 m_42 = some r ∧ St (⟨Tryz.f8.ntmps, M, noB, w0⟩ : Ctx) [(1, sl Ap11 (l_) cp11), (2, vI rounds_), (3, vP b3 0), (6, vP b4 0), (9, vI (((r_36 : Nat) : Int)))] [(1000, Ob.box b3 [sl A43 (m_42) c44] 24), (1001, Ob.box b4 [.slice (none) (0) (0)] 24)] [(102, slF RJudged (Ap11) ((l_).length) (cp11) (l_)), (112, slF RWeight (A43) ((m_42).length) (c44) (m_42))] a w) ?_ ?_
   ·apply wp_block
    apply wR
    refine asg s rfl rfl fun a s => ?_
    apply wN
    apply wp_block
    replace s := s.al 113 111 rfl
    refine c_loop (σ := Nat) (fun m3 a w => ∃ (i_45 : Nat) (m_46 : (List Weight)) (A47 : Option Addr) (c48 : Nat), r37_Train_L2 n l_ k41 m3 i_45 m_46 = some r ∧ St (⟨Tryz.f8.ntmps, M, noB, w0⟩ : Ctx) [(1, sl Ap11 (l_) cp11), (2, vI rounds_), (3, vP b3 0), (6, vP b4 0), (9, vI (((r_36 : Nat) : Int))), (10, vI (((i_45 : Nat) : Int)))] [(1000, Ob.box b3 [sl A47 (m_46) c48] 24), (1001, Ob.box b4 [.slice (none) (0) (0)] 24)] [(102, slF RJudged (Ap11) ((l_).length) (cp11) (l_)), (113, slF RWeight (A47) ((m_46).length) (c48) (m_46))] a w) (fun m3 => m3) n ⟨(0), (m_37), (A38), (c39), hg, (s.sb rfl rfl rfl)⟩ ?_
    clear s a; rintro m3 a w ⟨i_45, m_46, A47, c48, hg, s⟩
    rcases m3 with _ | m3
    ·rw [r37_Train_L2] at hg; cases hg
    rw [r37_Train_L2] at hg
    apply wQ
    apply wR
    refine mv s rfl rfl fun a s => ?_
    refine mv s rfl rfl fun a s => ?_
    refine qq s rfl (y_lenSlice s rfl underlying25) fun a s => ?_
    refine qq s rfl (y_lssN (i := i_45) (j := ((l_).length)) s rfl rfl) fun a s => ?_
    apply wN
    refine c_dec s rfl (fun hc49 => ?_) (fun hc49 => ?_)
    ·replace hg := br_t hg hc49
     have hmx50 := SlR.mx (s.ft 102 rfl)
     apply wp_skip
     apply pN
     apply wQ
     apply wp_block
     obtain ⟨x52, hx52, hg⟩ := bind_some hg
     obtain ⟨r54, hr54, hg⟩ := bind_some hg
     refine d_plan s [(6, 1000)] [(0, some 1000), (1, some 0), (2, some 0), (3, some 0), (4, some 0), (5, none), (6, none)] rfl (by kernel_rfl) (by kernel_rfl) rfl ?_; clear s; intro wr hZ s; have hR := s.wd
     refine qt s hR rfl (y_loadAll (kk := 1000) s rfl rfl underlying24 rfl rfl) fun a s => ?_
     refine qt s hR rfl (y_move s rfl) fun a s => ?_
     refine qt s hR rfl (y_move s rfl) fun a s => ?_
     obtain ⟨p57, hep57, hpp57⟩ := SlR.elemX (s.ft 102 rfl) hx52
     refine qt s hR rfl (y_elem (sz := 2) (i := i_45) s rfl rfl underlying25 rfl hep57 rfl (lt_of_get hx52)) fun a s => ?_
     obtain ⟨hlq58, hmq58, csq58, hdq58, hcq58⟩ := hpp57
     obtain ⟨Aq581, cq581, rfl, hq581⟩ := RJudged.open hdq58
     replace s := s.ns 116 hq581
     refine qt s hR rfl (y_ldp s rfl hlq58 hmq58 (by simpa using hcq58) underlying37 rfl rfl) fun a s => ?_
     refine l_take s rfl rfl (l_call (cap := []) s rfl func19 rfl (by kernel_rfl) rfl rfl (c_r37_learn n _ _ s.lt (Model.mk m_46) (A47) (c48) (s.ft 113 rfl) x52 (Aq581) (cq581) (s.ft 116 rfl) r54 hr54) fun v59 a w hK hp s => ?_)
     replace hZ := Nat.le_trans hZ hK.size; refine ⟨fun g _ h => h.grow hK, ?_⟩; clear hK
     obtain ⟨Au60a1, cu60a1, rfl, hu60a1⟩ := hp
     replace s := s.ns 117 hu60a1
     refine l_take s rfl rfl (l_store (n := 1) (cs' := [sl Au60a1 (r54.Weights) cu60a1]) s 1000 rfl rfl rfl rfl rfl rfl rfl rfl ?_); clear s; intro w hK s; replace hZ := Nat.le_trans hZ hK.size
     refine ⟨fun g hg h => h.obj hR (kk := 1000) rfl hK (by rintro rfl; exact absurd hg (by decide)), ?_⟩; clear hK
     clear hR hZ
     refine p_inN ?_
     apply pN
     apply wL
     refine mv s rfl rfl fun a s => ?_
     refine qq s rfl (y_addN (i := i_45) (j := 1) s rfl rfl (in64.2 (by omega))) fun a s => ?_
     refine asg s rfl rfl fun a s => ?_
     apply wN
     replace s := s.al 113 117 rfl
     exact ⟨m3, Nat.lt_succ_self _, ⟨(i_45 + 1), (r54.Weights), (Au60a1), (cu60a1), hg, (s.sb rfl rfl rfl)⟩⟩
    replace hg := br_f hg hc49
    apply wp_exit
    refine p_then ?_
    refine p_then ?_
    refine p_in ?_
    refine p_inN ?_
    apply pN
    replace s := s.al 112 113 rfl
    exact ⟨(m_46), (A47), (c48), hg, (s.sb rfl rfl rfl)⟩
   clear s a; rintro a w ⟨m_42, A43, c44, hg, s⟩
   subst hk41
   obtain ⟨hk61, hg⟩ := chk_some hg
   apply wL
   refine mv s rfl rfl fun a s => ?_
   refine qq s rfl (y_addN (i := r_36) (j := 1) s rfl rfl (in64.2 (by omega))) fun a s => ?_
   refine asg s rfl rfl fun a s => ?_
   apply wN
   replace s := s.al 111 112 rfl
   exact ⟨m2, Nat.lt_succ_self _, ⟨(r_36 + 1), (m_42), (A43), (c44), hg, (s.sb rfl rfl rfl)⟩⟩
  replace hg := br_f hg hc40
  apply wp_exit
  refine p_then ?_
  refine p_then ?_
  refine p_in ?_
  apply pN
  replace s := s.al 110 111 rfl
  exact ⟨(m_37), (A38), (c39), hg, (s.sb rfl rfl rfl)⟩
 clear s a; rintro a w ⟨m_33, A34, c35, hg, s⟩
 subst hk32
 apply wR
 refine qq s rfl (y_loadAll (kk := 1000) s rfl rfl underlying24 rfl rfl) fun a s => ?_
 refine l_seq rfl (l_store (n := 1) (cs' := [sl A34 (m_33) c35]) s 1001 rfl rfl rfl rfl rfl rfl rfl rfl ?_); clear s; intro w hK s; clear hK
 refine asg s rfl rfl fun a s => ?_
 apply wN
 apply wp_ret
 obtain rfl := Option.some.inj hg
 refine fin2 (fn := Tryz.f8) s rfl (r_cell (kk := 1001) (n := 1) (vs := [sl A34 (m_33) c35]) s rfl rfl underlying24 rfl rfl rfl rfl) (r_tmp s rfl) ?_
 exact ⟨(A34), (c35), rfl, (s.out (k := 110) rfl)⟩
end Go.Proofs.YthgdajiipojnoaaGreatDoor
