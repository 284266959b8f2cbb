/- Chapter 37: the walks, part 1 -/
import Derived.Test.YthgdajiipojnoaaGreatDoorD1
namespace Go.Proofs.YthgdajiipojnoaaGreatDoor
open Go.Gl Go.RowKit Tryz
set_option linter.unusedVariables false
set_option linter.unusedSimpArgs false
set_option maxRecDepth 4000

set_option maxHeartbeats 400000 in
theorem c_r37_Nodes (n : Nat) : ∀ (M : Bs) (w0 : World) (hM : ∀ b, M b → b < w0.heap.size) (d_ : Deriv) (Ap05 : Option Addr) (cp05 : Nat) (lp02 : (d_.Name).length ≤ 9223372036854775807) (hp05 : SlR RDeriv M w0 Ap05 (d_.Kids).length cp05 (d_.Kids)) (most_ : Int) (r : Int) (hg : r37_Nodes n d_ most_ = some r),
    Calls Tryz.prog 20 [.agg #[.int .i64 (d_.Kind), .string (bs (d_.Name)), .int .i64 (d_.From), .int .i64 (d_.To), .slice (Ap05) ((d_.Kids).length) (cp05)], .int .i64 (most_)].toArray w0 (Ret noB w0 fun v w => v = .int .i64 (r)) := by
 induction n with
 | zero => intros; rename_i hg; rw [r37_Nodes] at hg; cases hg
 | succ n c_self =>
 intro M w0 hM d_ Ap05 cp05 lp02 hp05 most_ r hg
 rw [r37_Nodes] at hg
 refine enter M noB func20 rfl rfl hM ?_
 intro a s
 replace s := s.es 101 hp05
 apply wR
 refine l_seq rfl (l_box (zs := [vI (d_.Kind), vT (d_.Name), vI (d_.From), vI (d_.To), sl Ap05 (d_.Kids) cp05]) s 1000 rfl rfl rfl rfl fun b2 a w hb hK s => ?_)
 refine asg s rfl rfl fun a s => ?_
 apply wN
 apply wR
 refine asg s rfl rfl fun a s => ?_
 apply wN
 apply wQ
 apply wR
 refine asg s rfl rfl fun a s => ?_
 apply wN
 apply wp_block
 refine c_loop (σ := Nat) (fun m1 a w => ∃ (n_3 : Int) (i_4 : Nat), r37_Nodes_L0 n d_ most_ (r37_Nodes n) m1 n_3 i_4 = some r ∧ St (⟨Tryz.f20.ntmps, M, noB, w0⟩ : Ctx) [(1, vI most_), (2, vP b2 0), (5, vI n_3), (6, vI (((i_4 : Nat) : Int)))] [(1000, Ob.box b2 [vI (d_.Kind), vT (d_.Name), vI (d_.From), vI (d_.To), sl Ap05 (d_.Kids) cp05] 42)] [(101, slF RDeriv (Ap05) ((d_.Kids).length) (cp05) (d_.Kids))] a w) (fun m1 => m1) n ⟨(1), (0), hg, (s.sb rfl rfl rfl)⟩ ?_
 clear s a; rintro m1 a w ⟨n_3, i_4, hg, s⟩
 rcases m1 with _ | m1
 ·rw [r37_Nodes_L0] at hg; cases hg
 rw [r37_Nodes_L0] at hg
 apply wQ
 apply wQ
 obtain ⟨k5, hg, hk5⟩ := jn_some hg
 refine c_post (fun a w => ∃ (t_6 : Bool), k5 t_6 = some r ∧ St (⟨Tryz.f20.ntmps, M, noB, w0⟩ : Ctx) [(1, vI most_), (2, vP b2 0), (5, vI n_3), (6, vI (((i_4 : Nat) : Int))), (16, .bool (t_6))] [(1000, Ob.box b2 [vI (d_.Kind), vT (d_.Name), vI (d_.From), vI (d_.To), sl Ap05 (d_.Kids) cp05] 42)] [(101, slF RDeriv (Ap05) ((d_.Kids).length) (cp05) (d_.Kids))] a w) ?_ ?_
 ·rcases Decidable.em (i_4 < ((d_.Kids).length)) with hs7 | hs7
  ·have hs7e := decide_eq_true hs7
   replace hg := br_t hg hs7
   have hmx8 := SlR.mx (s.ft 101 rfl)
   apply wL
   refine mv s rfl rfl fun a s => ?_
   refine qq s rfl (y_boxField (o' := 4) s rfl underlying42 rfl rfl rfl) fun a s => ?_
   refine qq s rfl (y_loadBox1 (kk := 1000) s rfl rfl rfl underlying35 rfl) fun a s => ?_
   refine qq s rfl (y_lenSlice s rfl underlying35) fun a s => ?_
   refine qq s rfl (yl_b (y_lssN (i := i_4) (j := ((d_.Kids).length)) s rfl rfl) hs7e) fun a s => ?_
   refine mv s rfl rfl fun a s => ?_
   refine gm s rfl rfl fun a s => ?_
   refine gm s rfl rfl fun a s => ?_
   refine gy s rfl (y_lss s rfl rfl) fun a s => ?_
   refine qq s rfl (y_pick_t s rfl rfl) fun a s => ?_
   apply wN
   exact ⟨(decide (n_3 < most_)), hg, (s.sb rfl rfl rfl)⟩
  have hs7e := decide_eq_false hs7
  replace hg := br_f hg hs7
  apply wL
  refine mv s rfl rfl fun a s => ?_
  refine qq s rfl (y_boxField (o' := 4) s rfl underlying42 rfl rfl rfl) fun a s => ?_
  refine qq s rfl (y_loadBox1 (kk := 1000) s rfl rfl rfl underlying35 rfl) fun a s => ?_
  refine qq s rfl (y_lenSlice s rfl underlying35) fun a s => ?_
  refine qq s rfl (yl_b (y_lssN (i := i_4) (j := ((d_.Kids).length)) s rfl rfl) hs7e) fun a s => ?_
  refine mv s rfl rfl fun a s => ?_
  refine gn s rfl fun a s => ?_
  refine gn s rfl fun a s => ?_
  refine gn s rfl fun a s => ?_
  refine qq s rfl (y_pick_f s rfl rfl) fun a s => ?_
  apply wN
  exact ⟨(false), hg, (s.sb rfl rfl rfl)⟩
 clear s a; rintro a w ⟨t_6, hg, s⟩
 subst hk5
 refine c_cond s rfl (fun hc9 => ?_) (fun hc9 => ?_)
 ·replace hg := br_t hg hc9
  apply wp_skip
  apply pN
  apply wQ
  apply wp_block
  obtain ⟨x11, hx11, hg⟩ := bind_some hg
  obtain ⟨hk13, hg⟩ := chk_some hg
  obtain ⟨r14, hr14, hg⟩ := bind_some hg
  obtain ⟨hk17, hg⟩ := chk_some hg
  apply wL
  refine mv s rfl rfl fun a s => ?_
  refine qq s rfl (y_boxField (o' := 4) s rfl underlying42 rfl rfl rfl) fun a s => ?_
  refine qq s rfl (y_loadBox1 (kk := 1000) s rfl rfl rfl underlying35 rfl) fun a s => ?_
  refine mv s rfl rfl fun a s => ?_
  obtain ⟨p18, hep18, hpp18⟩ := SlR.elemX (s.ft 101 rfl) hx11
  refine qq s rfl (y_elem (sz := 5) (i := i_4) s rfl rfl underlying35 rfl hep18 rfl (lt_of_get hx11)) fun a s => ?_
  obtain ⟨hlq19, hmq19, csq19, hdq19, hcq19⟩ := hpp18
  obtain ⟨Aq195, cq195, rfl, lq192, hq195⟩ := RDeriv.open hdq19
  replace s := s.ns 103 hq195
  refine qq s rfl (y_ldp s rfl hlq19 hmq19 (by simpa using hcq19) underlying42 rfl rfl) fun a s => ?_
  refine mv s rfl rfl fun a s => ?_
  refine mv s rfl rfl fun a s => ?_
  refine qq s rfl (y_sub s rfl rfl (in64.2 hk13)) fun a s => ?_
  refine l_seq rfl (l_call (cap := []) s rfl func20 rfl (by kernel_rfl) rfl rfl (c_self _ _ s.lt x11 (Aq195) (cq195) (by omega) (s.ft 103 rfl) (most_ - n_3) r14 hr14) fun v20 a w hK hp s => ?_)
  obtain rfl := hp
  refine qq s rfl (y_add s rfl rfl (in64.2 hk17)) fun a s => ?_
  refine asg s rfl rfl fun a s => ?_
  apply wO
  refine p_inN ?_
  apply pN
  obtain ⟨hk22, hg⟩ := chk_some hg
  apply wL
  refine mv s rfl rfl fun a s => ?_
  refine qq s rfl (y_addN (i := i_4) (j := 1) s rfl rfl (in64.2 (by omega))) fun a s => ?_
  refine asg s rfl rfl fun a s => ?_
  apply wN
  exact ⟨m1, Nat.lt_succ_self _, ⟨(n_3 + r14), (i_4 + 1), hg, (s.sb rfl rfl rfl)⟩⟩
 replace hg := br_n hg hc9
 apply wp_exit
 refine p_then ?_
 refine p_then ?_
 refine p_in ?_
 apply pN
 apply wR
 refine mv s rfl rfl fun a s => ?_
 refine asg s rfl rfl fun a s => ?_
 apply wN
 apply wp_ret
 obtain rfl := Option.some.inj hg
 refine fin1 (fn := Tryz.f20) s rfl (r_tmp s rfl) ?_
 exact rfl
set_option maxHeartbeats 400000 in
theorem c_r37_Light (n : Nat) (M : Bs) (w0 : World) (hM : ∀ b, M b → b < w0.heap.size) (l_ : (List Deriv)) (Ap01 : Option Addr) (cp01 : Nat) (hp01 : SlR RDeriv M w0 Ap01 (l_).length cp01 (l_)) (most_ : Int) (r : Bool) (hg : r37_Light n l_ most_ = some r) :
    Calls Tryz.prog 10 [.slice (Ap01) ((l_).length) (cp01), .int .i64 (most_)].toArray w0 (Ret noB w0 fun v w => v = .bool (r)) := by
 unfold r37_Light at hg
 refine enter M noB func10 rfl rfl hM ?_
 intro a s
 replace s := s.es 101 hp01
 apply wR
 refine asg s rfl rfl fun a s => ?_
 apply wN
 apply wR
 refine asg s rfl rfl fun a s => ?_
 apply wN
 apply wQ
 apply wR
 refine asg s rfl rfl fun a s => ?_
 apply wN
 apply wp_block
 refine c_loop (σ := Nat) (fun m1 a w => ∃ (n_1 : Int) (i_2 : Nat), r37_Light_L0 n l_ most_ m1 n_1 i_2 = some r ∧ St (⟨Tryz.f10.ntmps, M, noB, w0⟩ : Ctx) [(0, sl Ap01 (l_) cp01), (1, vI most_), (5, vI n_1), (6, vI (((i_2 : Nat) : Int)))] [] [(101, slF RDeriv (Ap01) ((l_).length) (cp01) (l_))] a w) (fun m1 => m1) n ⟨(0), (0), hg, (s.sb rfl rfl rfl)⟩ ?_
 clear s a; rintro m1 a w ⟨n_1, i_2, hg, s⟩
 rcases m1 with _ | m1
 ·rw [r37_Light_L0] at hg; cases hg
 rw [r37_Light_L0] at hg
 apply wQ
 apply wQ
 obtain ⟨k3, hg, hk3⟩ := jn_some hg
 refine c_post (fun a w => ∃ (t_4 : Bool), k3 t_4 = some r ∧ St (⟨Tryz.f10.ntmps, M, noB, w0⟩ : Ctx) [(0, sl Ap01 (l_) cp01), (1, vI most_), (5, vI n_1), (6, vI (((i_2 : Nat) : Int))), (15, .bool (t_4))] [] [(101, slF RDeriv (Ap01) ((l_).length) (cp01) (l_))] a w) ?_ ?_
 ·rcases Decidable.em (i_2 < ((l_).length)) with hs5 | hs5
  ·have hs5e := decide_eq_true hs5
   replace hg := br_t hg hs5
   have hmx6 := SlR.mx (s.ft 101 rfl)
   apply wL
   refine mv s rfl rfl fun a s => ?_
   refine mv s rfl rfl fun a s => ?_
   refine qq s rfl (y_lenSlice s rfl underlying35) fun a s => ?_
   refine qq s rfl (yl_b (y_lssN (i := i_2) (j := ((l_).length)) s rfl rfl) hs5e) fun a s => ?_
   refine mv s rfl rfl fun a s => ?_
   refine gm s rfl rfl fun a s => ?_
   refine gm s rfl rfl fun a s => ?_
   refine gy s rfl (y_leq s rfl rfl) fun a s => ?_
   refine qq s rfl (y_pick_t s rfl rfl) fun a s => ?_
   apply wN
   exact ⟨(decide (n_1 ≤ most_)), hg, (s.sb rfl rfl rfl)⟩
  have hs5e := decide_eq_false hs5
  replace hg := br_f hg hs5
  apply wL
  refine mv s rfl rfl fun a s => ?_
  refine mv s rfl rfl fun a s => ?_
  refine qq s rfl (y_lenSlice s rfl underlying35) fun a s => ?_
  refine qq s rfl (yl_b (y_lssN (i := i_2) (j := ((l_).length)) s rfl rfl) hs5e) fun a s => ?_
  refine mv s rfl rfl fun a s => ?_
  refine gn s rfl fun a s => ?_
  refine gn s rfl fun a s => ?_
  refine gn s rfl fun a s => ?_
  refine qq s rfl (y_pick_f s rfl rfl) fun a s => ?_
  apply wN
  exact ⟨(false), hg, (s.sb rfl rfl rfl)⟩
 clear s a; rintro a w ⟨t_4, hg, s⟩
 subst hk3
 refine c_cond s rfl (fun hc7 => ?_) (fun hc7 => ?_)
 ·replace hg := br_t hg hc7
  apply wp_skip
  apply pN
  apply wQ
  apply wp_block
  obtain ⟨x9, hx9, hg⟩ := bind_some hg
  obtain ⟨hk11, hg⟩ := chk_some hg
  obtain ⟨r12, hr12, hg⟩ := bind_some hg
  obtain ⟨hk15, hg⟩ := chk_some hg
  apply wL
  refine mv s rfl rfl fun a s => ?_
  refine mv s rfl rfl fun a s => ?_
  refine mv s rfl rfl fun a s => ?_
  obtain ⟨p16, hep16, hpp16⟩ := SlR.elemX (s.ft 101 rfl) hx9
  refine qq s rfl (y_elem (sz := 5) (i := i_2) s rfl rfl underlying35 rfl hep16 rfl (lt_of_get hx9)) fun a s => ?_
  obtain ⟨hlq17, hmq17, csq17, hdq17, hcq17⟩ := hpp16
  obtain ⟨Aq175, cq175, rfl, lq172, hq175⟩ := RDeriv.open hdq17
  replace s := s.ns 103 hq175
  refine qq s rfl (y_ldp s rfl hlq17 hmq17 (by simpa using hcq17) underlying42 rfl rfl) fun a s => ?_
  refine mv s rfl rfl fun a s => ?_
  refine qq s rfl (y_add s rfl rfl (in64.2 hk11)) fun a s => ?_
  refine l_seq rfl (l_call (cap := []) s rfl func20 rfl (by kernel_rfl) rfl rfl (c_r37_Nodes n _ _ s.lt x9 (Aq175) (cq175) (by omega) (s.ft 103 rfl) (most_ + 1) r12 hr12) fun v18 a w hK hp s => ?_)
  obtain rfl := hp
  refine qq s rfl (y_add s rfl rfl (in64.2 hk15)) fun a s => ?_
  refine asg s rfl rfl fun a s => ?_
  apply wO
  refine p_inN ?_
  apply pN
  obtain ⟨hk20, hg⟩ := chk_some hg
  apply wL
  refine mv s rfl rfl fun a s => ?_
  refine qq s rfl (y_addN (i := i_2) (j := 1) s rfl rfl (in64.2 (by omega))) fun a s => ?_
  refine asg s rfl rfl fun a s => ?_
  apply wN
  exact ⟨m1, Nat.lt_succ_self _, ⟨(n_1 + r12), (i_2 + 1), hg, (s.sb rfl rfl rfl)⟩⟩
 replace hg := br_n hg hc7
 apply wp_exit
 refine p_then ?_
 refine p_then ?_
 refine p_in ?_
 apply pN
 apply wR
 refine mv s rfl rfl fun a s => ?_
 refine mv s rfl rfl fun a s => ?_
 refine qq s rfl (y_leq s rfl rfl) fun a s => ?_
 refine asg s rfl rfl fun a s => ?_
 apply wN
 apply wp_ret
 obtain rfl := Option.some.inj hg
 refine fin1 (fn := Tryz.f10) s rfl (r_tmp s rfl) ?_
 exact rfl
set_option maxHeartbeats 400000 in
theorem c_law37_lightJudged (n : Nat) (M : Bs) (w0 : World) (hM : ∀ b, M b → b < w0.heap.size) (l_ : (List Judged)) (Ap01 : Option Addr) (cp01 : Nat) (hp01 : SlR RJudged M w0 Ap01 (l_).length cp01 (l_)) (most_ : Int) (r : Bool) (hg : law37_lightJudged n l_ most_ = some r) :
    Calls Tryz.prog 4 [.slice (Ap01) ((l_).length) (cp01), .int .i64 (most_)].toArray w0 (Ret noB w0 fun v w => v = .bool (r)) := by
 unfold law37_lightJudged at hg
 refine enter M noB func4 rfl rfl hM ?_
 intro a s
 replace s := s.es 101 hp01
 apply wR
 refine asg s rfl rfl fun a s => ?_
 apply wN
 apply wQ
 apply wR
 refine asg s rfl rfl fun a s => ?_
 apply wN
 obtain ⟨k1, hg, hk1⟩ := jn_some hg
 refine c_post (fun a w => k1 = some r ∧ St (⟨Tryz.f4.ntmps, M, noB, w0⟩ : Ctx) [(0, sl Ap01 (l_) cp01)] [] [(101, slF RJudged (Ap01) ((l_).length) (cp01) (l_))] a w) ?_ ?_
 ·apply wp_block
  refine c_loop (σ := Nat) (fun m1 a w => ∃ (i_2 : Nat), law37_lightJudged_L0 n l_ most_ k1 m1 i_2 = some r ∧ St (⟨Tryz.f4.ntmps, M, noB, w0⟩ : Ctx) [(0, sl Ap01 (l_) cp01), (1, vI most_), (5, vI (((i_2 : Nat) : Int)))] [] [(101, slF RJudged (Ap01) ((l_).length) (cp01) (l_))] a w) (fun m1 => m1) n ⟨(0), hg, (s.sb rfl rfl rfl)⟩ ?_
  clear s a; rintro m1 a w ⟨i_2, hg, s⟩
  rcases m1 with _ | m1
  ·rw [law37_lightJudged_L0] at hg; cases hg
  rw [law37_lightJudged_L0] at hg
  apply wQ
  apply wQ
  obtain ⟨k3, hg, hk3⟩ := jn_some hg
  refine c_post (fun a w => ∃ (t_4 : Bool), k3 t_4 = some r ∧ St (⟨Tryz.f4.ntmps, M, noB, w0⟩ : Ctx) [(0, sl Ap01 (l_) cp01), (1, vI most_), (5, vI (((i_2 : Nat) : Int))), (13, .bool (t_4))] [] [(101, slF RJudged (Ap01) ((l_).length) (cp01) (l_))] a w) ?_ ?_
  ·rcases Decidable.em (i_2 < ((l_).length)) with hs5 | hs5
   ·have hs5e := decide_eq_true hs5
    replace hg := br_t hg hs5
    have hmx6 := SlR.mx (s.ft 101 rfl)
    apply wL
    refine mv s rfl rfl fun a s => ?_
    refine mv s rfl rfl fun a s => ?_
    refine qq s rfl (y_lenSlice s rfl underlying25) fun a s => ?_
    refine qq s rfl (yl_b (y_lssN (i := i_2) (j := ((l_).length)) s rfl rfl) hs5e) fun a s => ?_
    refine mv s rfl rfl fun a s => ?_
    refine gm s rfl rfl fun a s => ?_
    refine gy s rfl (y_lssN (i := i_2) (j := 9) s rfl rfl) fun a s => ?_
    refine qq s rfl (y_pick_t s rfl rfl) fun a s => ?_
    apply wN
    exact ⟨(decide (i_2 < 9)), hg, (s.sb rfl rfl rfl)⟩
   have hs5e := decide_eq_false hs5
   replace hg := br_f hg hs5
   apply wL
   refine mv s rfl rfl fun a s => ?_
   refine mv s rfl rfl fun a s => ?_
   refine qq s rfl (y_lenSlice s rfl underlying25) fun a s => ?_
   refine qq s rfl (yl_b (y_lssN (i := i_2) (j := ((l_).length)) s rfl rfl) hs5e) fun a s => ?_
   refine mv s rfl rfl fun a s => ?_
   refine gn s rfl fun a s => ?_
   refine gn s rfl fun a s => ?_
   refine qq s rfl (y_pick_f s rfl rfl) fun a s => ?_
   apply wN
   exact ⟨(false), hg, (s.sb rfl rfl rfl)⟩
  clear s a; rintro a w ⟨t_4, hg, s⟩
  subst hk3
  refine c_cond s rfl (fun hc7 => ?_) (fun hc7 => ?_)
  ·replace hg := br_t hg hc7
   apply wp_skip
   apply pN
   apply wQ
   apply wp_block
   apply wQ
   obtain ⟨x9, hx9, hg⟩ := bind_some hg
   obtain ⟨r11, hr11, hg⟩ := bind_some hg
   apply wL
   refine mv s rfl rfl fun a s => ?_
   refine mv s rfl rfl fun a s => ?_
   obtain ⟨p14, hep14, hpp14⟩ := SlR.elemX (s.ft 101 rfl) hx9
   refine qq s rfl (y_elem (sz := 2) (i := i_2) s rfl rfl underlying25 rfl hep14 rfl (lt_of_get hx9)) fun a s => ?_
   refine qq s rfl (y_ptrField (o' := 0) s rfl underlying37 rfl rfl rfl) fun a s => ?_
   obtain ⟨hlq15, hmq15, csq15, hdq15, hcq15⟩ := hpp14
   obtain ⟨Aq151, cq151, rfl, hq151⟩ := RJudged.open hdq15
   replace s := s.ns 103 hq151
   refine qq s rfl (y_ldp1 s rfl hlq15 hmq15 (hcq15 0 _ rfl) underlying35 rfl) fun a s => ?_
   refine mv s rfl rfl fun a s => ?_
   refine l_seq rfl (l_call (cap := []) s rfl func10 rfl (by kernel_rfl) rfl rfl (c_r37_Light n _ _ s.lt x9.Readings (Aq151) (cq151) (s.ft 103 rfl) most_ r11 hr11) fun v16 a w hK hp s => ?_)
   obtain rfl := hp
   refine qq s rfl (y_not s rfl) fun a s => ?_
   apply wN
   refine c_cond s rfl (fun hc18 => ?_) (fun hc18 => ?_)
   ·replace hg := br_t hg hc18
    apply wR
    refine asg s rfl rfl fun a s => ?_
    apply wN
    apply wp_ret
    refine p_inR ?_
    refine p_thenR ?_
    refine p_thenR ?_
    refine p_inR ?_
    refine p_thenR ?_
    obtain rfl := Option.some.inj hg
    refine fin1 (fn := Tryz.f4) s rfl (r_tmp s rfl) ?_
    exact rfl
   replace hg := br_n hg hc18
   apply wp_skip
   refine p_inN ?_
   apply pN
   obtain ⟨hk19, hg⟩ := chk_some hg
   apply wL
   refine mv s rfl rfl fun a s => ?_
   refine qq s rfl (y_addN (i := i_2) (j := 1) s rfl rfl (in64.2 (by omega))) fun a s => ?_
   refine asg s rfl rfl fun a s => ?_
   apply wN
   exact ⟨m1, Nat.lt_succ_self _, ⟨(i_2 + 1), hg, (s.sb rfl rfl rfl)⟩⟩
  replace hg := br_n hg hc7
  apply wp_exit
  refine p_then ?_
  refine p_then ?_
  refine p_in ?_
  apply pN
  exact ⟨hg, (s.sb rfl rfl rfl)⟩
 clear s a; rintro a w ⟨hg, s⟩
 subst hk1
 apply wR
 refine mv s rfl rfl fun a s => ?_
 refine qq s rfl (y_lenSlice s rfl underlying25) fun a s => ?_
 refine qq s rfl (y_leqN (i := ((l_).length)) (j := 8) s rfl rfl) fun a s => ?_
 refine asg s rfl rfl fun a s => ?_
 apply wN
 apply wp_ret
 obtain rfl := Option.some.inj hg
 refine fin1 (fn := Tryz.f4) s rfl (r_tmp s rfl) ?_
 exact rfl
set_option maxHeartbeats 400000 in
theorem c_r01_digit (n : Nat) (M : Bs) (w0 : World) (hM : ∀ b, M b → b < w0.heap.size) (c_ : UInt8) (r : Bool) (hg : r01_digit n c_ = some r) :
    Calls Tryz.prog 56 [.int .u8 (((c_.toNat : Nat) : Int))].toArray w0 (Ret noB w0 fun v w => v = .bool (r)) := by
 unfold r01_digit at hg
 refine enter M noB func56 rfl rfl hM ?_
 intro a s
 apply wR
 refine asg s rfl rfl fun a s => ?_
 apply wN
 apply wQ
 rcases Decidable.em ((48 : Nat) ≤ c_.toNat) with hs1 | hs1
 ·have hs1e := decide_eq_true hs1
  replace hg := br_t hg hs1
  apply wL
  refine mv s rfl rfl fun a s => ?_
  refine qq s rfl (yl_b (y_geqN (i := c_.toNat) (j := 48) s rfl rfl) hs1e) fun a s => ?_
  refine mv s rfl rfl fun a s => ?_
  refine gm s rfl rfl fun a s => ?_
  refine gy s rfl (y_leqN (i := c_.toNat) (j := 57) s rfl rfl) fun a s => ?_
  refine qq s rfl (y_pick_t s rfl rfl) fun a s => ?_
  refine asg s rfl rfl fun a s => ?_
  apply wN
  apply wp_ret
  obtain rfl := Option.some.inj hg
  refine fin1 (fn := Tryz.f56) s rfl (r_tmp s rfl) ?_
  exact rfl
 have hs1e := decide_eq_false hs1
 replace hg := br_f hg hs1
 apply wL
 refine mv s rfl rfl fun a s => ?_
 refine qq s rfl (yl_b (y_geqN (i := c_.toNat) (j := 48) s rfl rfl) hs1e) fun a s => ?_
 refine mv s rfl rfl fun a s => ?_
 refine gn s rfl fun a s => ?_
 refine gn s rfl fun a s => ?_
 refine qq s rfl (y_pick_f s rfl rfl) fun a s => ?_
 refine asg s rfl rfl fun a s => ?_
 apply wN
 apply wp_ret
 obtain rfl := Option.some.inj hg
 refine fin1 (fn := Tryz.f56) s rfl (r_tmp s rfl) ?_
 exact rfl
set_option maxHeartbeats 400000 in
theorem c_r01_upper (n : Nat) (M : Bs) (w0 : World) (hM : ∀ b, M b → b < w0.heap.size) (c_ : UInt8) (r : Bool) (hg : r01_upper n c_ = some r) :
    Calls Tryz.prog 68 [.int .u8 (((c_.toNat : Nat) : Int))].toArray w0 (Ret noB w0 fun v w => v = .bool (r)) := by
 unfold r01_upper at hg
 refine enter M noB func68 rfl rfl hM ?_
 intro a s
 apply wR
 refine asg s rfl rfl fun a s => ?_
 apply wN
 apply wQ
 rcases Decidable.em ((65 : Nat) ≤ c_.toNat) with hs1 | hs1
 ·have hs1e := decide_eq_true hs1
  replace hg := br_t hg hs1
  apply wL
  refine mv s rfl rfl fun a s => ?_
  refine qq s rfl (yl_b (y_geqN (i := c_.toNat) (j := 65) s rfl rfl) hs1e) fun a s => ?_
  refine mv s rfl rfl fun a s => ?_
  refine gm s rfl rfl fun a s => ?_
  refine gy s rfl (y_leqN (i := c_.toNat) (j := 90) s rfl rfl) fun a s => ?_
  refine qq s rfl (y_pick_t s rfl rfl) fun a s => ?_
  refine asg s rfl rfl fun a s => ?_
  apply wN
  apply wp_ret
  obtain rfl := Option.some.inj hg
  refine fin1 (fn := Tryz.f68) s rfl (r_tmp s rfl) ?_
  exact rfl
 have hs1e := decide_eq_false hs1
 replace hg := br_f hg hs1
 apply wL
 refine mv s rfl rfl fun a s => ?_
 refine qq s rfl (yl_b (y_geqN (i := c_.toNat) (j := 65) s rfl rfl) hs1e) fun a s => ?_
 refine mv s rfl rfl fun a s => ?_
 refine gn s rfl fun a s => ?_
 refine gn s rfl fun a s => ?_
 refine qq s rfl (y_pick_f s rfl rfl) fun a s => ?_
 refine asg s rfl rfl fun a s => ?_
 apply wN
 apply wp_ret
 obtain rfl := Option.some.inj hg
 refine fin1 (fn := Tryz.f68) s rfl (r_tmp s rfl) ?_
 exact rfl
set_option maxHeartbeats 400000 in
theorem c_r01_lower (n : Nat) (M : Bs) (w0 : World) (hM : ∀ b, M b → b < w0.heap.size) (c_ : UInt8) (r : Bool) (hg : r01_lower n c_ = some r) :
    Calls Tryz.prog 69 [.int .u8 (((c_.toNat : Nat) : Int))].toArray w0 (Ret noB w0 fun v w => v = .bool (r)) := by
 unfold r01_lower at hg
 refine enter M noB func69 rfl rfl hM ?_
 intro a s
 apply wR
 refine asg s rfl rfl fun a s => ?_
 apply wN
 apply wQ
 rcases Decidable.em ((97 : Nat) ≤ c_.toNat) with hs1 | hs1
 ·have hs1e := decide_eq_true hs1
  replace hg := br_t hg hs1
  apply wL
  refine mv s rfl rfl fun a s => ?_
  refine qq s rfl (yl_b (y_geqN (i := c_.toNat) (j := 97) s rfl rfl) hs1e) fun a s => ?_
  refine mv s rfl rfl fun a s => ?_
  refine gm s rfl rfl fun a s => ?_
  refine gy s rfl (y_leqN (i := c_.toNat) (j := 122) s rfl rfl) fun a s => ?_
  refine qq s rfl (y_pick_t s rfl rfl) fun a s => ?_
  refine asg s rfl rfl fun a s => ?_
  apply wN
  apply wp_ret
  obtain rfl := Option.some.inj hg
  refine fin1 (fn := Tryz.f69) s rfl (r_tmp s rfl) ?_
  exact rfl
 have hs1e := decide_eq_false hs1
 replace hg := br_f hg hs1
 apply wL
 refine mv s rfl rfl fun a s => ?_
 refine qq s rfl (yl_b (y_geqN (i := c_.toNat) (j := 97) s rfl rfl) hs1e) fun a s => ?_
 refine mv s rfl rfl fun a s => ?_
 refine gn s rfl fun a s => ?_
 refine gn s rfl fun a s => ?_
 refine qq s rfl (y_pick_f s rfl rfl) fun a s => ?_
 refine asg s rfl rfl fun a s => ?_
 apply wN
 apply wp_ret
 obtain rfl := Option.some.inj hg
 refine fin1 (fn := Tryz.f69) s rfl (r_tmp s rfl) ?_
 exact rfl
set_option maxHeartbeats 400000 in
theorem c_r01_part (n : Nat) (M : Bs) (w0 : World) (hM : ∀ b, M b → b < w0.heap.size) (c_ : UInt8) (big_ : Bool) (r : Bool) (hg : r01_part n c_ big_ = some r) :
    Calls Tryz.prog 57 [.int .u8 (((c_.toNat : Nat) : Int)), .bool (big_)].toArray w0 (Ret noB w0 fun v w => v = .bool (r)) := by
 unfold r01_part at hg
 refine enter M noB func57 rfl rfl hM ?_
 intro a s
 apply wR
 refine asg s rfl rfl fun a s => ?_
 apply wN
 apply wQ
 obtain ⟨r1, hr1, hg⟩ := bind_some hg
 rcases Bool.eq_false_or_eq_true (r1) with hs4 | hs4
 ·replace hg := br_t hg hs4
  apply wL
  refine mv s rfl rfl fun a s => ?_
  refine l_seq rfl (l_call (cap := []) s rfl func56 rfl (by kernel_rfl) rfl rfl (c_r01_digit n _ _ s.lt c_ r1 hr1) fun v5 a w hK hp s => ?_)
  obtain rfl := hp.trans (congrArg Value.bool hs4)
  refine mv s rfl rfl fun a s => ?_
  refine gn s rfl fun a s => ?_
  refine gn s rfl fun a s => ?_
  refine qq s rfl (y_pick_t s rfl rfl) fun a s => ?_
  refine mv s rfl rfl fun a s => ?_
  refine gn s rfl fun a s => ?_
  refine gn s rfl fun a s => ?_
  refine gn s rfl fun a s => ?_
  refine gn s rfl fun a s => ?_
  refine gn s rfl fun a s => ?_
  refine qq s rfl (y_pick_t s rfl rfl) fun a s => ?_
  refine mv s rfl rfl fun a s => ?_
  refine gn s rfl fun a s => ?_
  refine gn s rfl fun a s => ?_
  refine gn s rfl fun a s => ?_
  refine gn s rfl fun a s => ?_
  refine gn s rfl fun a s => ?_
  refine gn s rfl fun a s => ?_
  refine qq s rfl (y_pick_t s rfl rfl) fun a s => ?_
  refine asg s rfl rfl fun a s => ?_
  apply wN
  apply wp_ret
  obtain rfl := Option.some.inj hg
  refine fin1 (fn := Tryz.f57) s rfl (r_tmp s rfl) ?_
  exact rfl
 replace hg := br_n hg hs4
 rcases Decidable.em (c_.toNat = 45) with hs7 | hs7
 ·have hs7e := decide_eq_true hs7
  replace hg := br_t hg hs7
  apply wL
  refine mv s rfl rfl fun a s => ?_
  refine l_seq rfl (l_call (cap := []) s rfl func56 rfl (by kernel_rfl) rfl rfl (c_r01_digit n _ _ s.lt c_ r1 hr1) fun v8 a w hK hp s => ?_)
  obtain rfl := hp.trans (congrArg Value.bool hs4)
  refine mv s rfl rfl fun a s => ?_
  refine gm s rfl rfl fun a s => ?_
  refine gy s rfl (yl_b (y_eqlN (i := c_.toNat) (j := 45) s rfl rfl) hs7e) fun a s => ?_
  refine qq s rfl (y_pick_f s rfl rfl) fun a s => ?_
  refine mv s rfl rfl fun a s => ?_
  refine gn s rfl fun a s => ?_
  refine gn s rfl fun a s => ?_
  refine gn s rfl fun a s => ?_
  refine gn s rfl fun a s => ?_
  refine gn s rfl fun a s => ?_
  refine qq s rfl (y_pick_t s rfl rfl) fun a s => ?_
  refine mv s rfl rfl fun a s => ?_
  refine gn s rfl fun a s => ?_
  refine gn s rfl fun a s => ?_
  refine gn s rfl fun a s => ?_
  refine gn s rfl fun a s => ?_
  refine gn s rfl fun a s => ?_
  refine gn s rfl fun a s => ?_
  refine qq s rfl (y_pick_t s rfl rfl) fun a s => ?_
  refine asg s rfl rfl fun a s => ?_
  apply wN
  apply wp_ret
  obtain rfl := Option.some.inj hg
  refine fin1 (fn := Tryz.f57) s rfl (r_tmp s rfl) ?_
  exact rfl
 have hs7e := decide_eq_false hs7
 replace hg := br_f hg hs7
 rcases Bool.eq_false_or_eq_true (big_) with hs10 | hs10
 ·replace hg := br_t hg hs10
  obtain ⟨r11, hr11, hg⟩ := bind_some hg
  rcases Bool.eq_false_or_eq_true (r11) with hs14 | hs14
  ·replace hg := br_t hg hs14
   apply wL
   refine mv s rfl rfl fun a s => ?_
   refine l_seq rfl (l_call (cap := []) s rfl func56 rfl (by kernel_rfl) rfl rfl (c_r01_digit n _ _ s.lt c_ r1 hr1) fun v15 a w hK hp s => ?_)
   obtain rfl := hp.trans (congrArg Value.bool hs4)
   refine mv s rfl rfl fun a s => ?_
   refine gm s rfl rfl fun a s => ?_
   refine gy s rfl (yl_b (y_eqlN (i := c_.toNat) (j := 45) s rfl rfl) hs7e) fun a s => ?_
   refine qq s rfl (y_pick_f s rfl rfl) fun a s => ?_
   refine mv s rfl rfl fun a s => ?_
   refine gy s rfl (yl_b (y_move s rfl) hs10) fun a s => ?_
   refine gm s rfl rfl fun a s => ?_
   refine gm s rfl rfl fun a s => ?_
   refine gl s rfl (l_call (cap := []) s rfl func68 rfl (by kernel_rfl) rfl rfl (c_r01_upper n _ _ s.lt c_ r11 hr11) fun v17 a w hK hp s => ?_)
   obtain rfl := hp.trans (congrArg Value.bool hs14)
   refine gy s rfl (y_pick_t s rfl rfl) fun a s => ?_
   refine qq s rfl (y_pick_f s rfl rfl) fun a s => ?_
   refine mv s rfl rfl fun a s => ?_
   refine gn s rfl fun a s => ?_
   refine gn s rfl fun a s => ?_
   refine gn s rfl fun a s => ?_
   refine gn s rfl fun a s => ?_
   refine gn s rfl fun a s => ?_
   refine gn s rfl fun a s => ?_
   refine qq s rfl (y_pick_t s rfl rfl) fun a s => ?_
   refine asg s rfl rfl fun a s => ?_
   apply wN
   apply wp_ret
   obtain rfl := Option.some.inj hg
   refine fin1 (fn := Tryz.f57) s rfl (r_tmp s rfl) ?_
   exact rfl
  replace hg := br_n hg hs14
  apply wL
  refine mv s rfl rfl fun a s => ?_
  refine l_seq rfl (l_call (cap := []) s rfl func56 rfl (by kernel_rfl) rfl rfl (c_r01_digit n _ _ s.lt c_ r1 hr1) fun v19 a w hK hp s => ?_)
  obtain rfl := hp.trans (congrArg Value.bool hs4)
  refine mv s rfl rfl fun a s => ?_
  refine gm s rfl rfl fun a s => ?_
  refine gy s rfl (yl_b (y_eqlN (i := c_.toNat) (j := 45) s rfl rfl) hs7e) fun a s => ?_
  refine qq s rfl (y_pick_f s rfl rfl) fun a s => ?_
  refine mv s rfl rfl fun a s => ?_
  refine gy s rfl (yl_b (y_move s rfl) hs10) fun a s => ?_
  refine gm s rfl rfl fun a s => ?_
  refine gm s rfl rfl fun a s => ?_
  refine gl s rfl (l_call (cap := []) s rfl func68 rfl (by kernel_rfl) rfl rfl (c_r01_upper n _ _ s.lt c_ r11 hr11) fun v21 a w hK hp s => ?_)
  obtain rfl := hp.trans (congrArg Value.bool hs14)
  refine gy s rfl (y_pick_t s rfl rfl) fun a s => ?_
  refine qq s rfl (y_pick_f s rfl rfl) fun a s => ?_
  refine mv s rfl rfl fun a s => ?_
  refine gy s rfl (yl_b (y_move s rfl) hs10) fun a s => ?_
  refine gy s rfl (y_not s rfl) fun a s => ?_
  refine gm s rfl rfl fun a s => ?_
  refine gn s rfl fun a s => ?_
  refine gn s rfl fun a s => ?_
  refine gy s rfl (y_pick_f s rfl rfl) fun a s => ?_
  refine qq s rfl (y_pick_f s rfl rfl) fun a s => ?_
  refine asg s rfl rfl fun a s => ?_
  apply wN
  apply wp_ret
  obtain rfl := Option.some.inj hg
  refine fin1 (fn := Tryz.f57) s rfl (r_tmp s rfl) ?_
  exact rfl
 replace hg := br_n hg hs10
 obtain ⟨r23, hr23, hg⟩ := bind_some hg
 apply wL
 refine mv s rfl rfl fun a s => ?_
 refine l_seq rfl (l_call (cap := []) s rfl func56 rfl (by kernel_rfl) rfl rfl (c_r01_digit n _ _ s.lt c_ r1 hr1) fun v26 a w hK hp s => ?_)
 obtain rfl := hp.trans (congrArg Value.bool hs4)
 refine mv s rfl rfl fun a s => ?_
 refine gm s rfl rfl fun a s => ?_
 refine gy s rfl (yl_b (y_eqlN (i := c_.toNat) (j := 45) s rfl rfl) hs7e) fun a s => ?_
 refine qq s rfl (y_pick_f s rfl rfl) fun a s => ?_
 refine mv s rfl rfl fun a s => ?_
 refine gy s rfl (yl_b (y_move s rfl) hs10) fun a s => ?_
 refine gm s rfl rfl fun a s => ?_
 refine gn s rfl fun a s => ?_
 refine gn s rfl fun a s => ?_
 refine gy s rfl (y_pick_f s rfl rfl) fun a s => ?_
 refine qq s rfl (y_pick_f s rfl rfl) fun a s => ?_
 refine mv s rfl rfl fun a s => ?_
 refine gy s rfl (yl_b (y_move s rfl) hs10) fun a s => ?_
 refine gy s rfl (y_not s rfl) fun a s => ?_
 refine gm s rfl rfl fun a s => ?_
 refine gm s rfl rfl fun a s => ?_
 refine gl s rfl (l_call (cap := []) s rfl func69 rfl (by kernel_rfl) rfl rfl (c_r01_lower n _ _ s.lt c_ r23 hr23) fun v28 a w hK hp s => ?_)
 obtain rfl := hp
 refine gy s rfl (y_pick_t s rfl rfl) fun a s => ?_
 refine qq s rfl (y_pick_f s rfl rfl) fun a s => ?_
 refine asg s rfl rfl fun a s => ?_
 apply wN
 apply wp_ret
 obtain rfl := Option.some.inj hg
 refine fin1 (fn := Tryz.f57) s rfl (r_tmp s rfl) ?_
 exact rfl
set_option maxHeartbeats 400000 in
theorem c_r01_named (n : Nat) (M : Bs) (w0 : World) (hM : ∀ b, M b → b < w0.heap.size) (s_ : (List UInt8)) (lp01 : (s_).length ≤ 9223372036854775807) (big_ : Bool) (r : Bool) (hg : r01_named n s_ big_ = some r) :
    Calls Tryz.prog 38 [.string (bs (s_)), .bool (big_)].toArray w0 (Ret noB w0 fun v w => v = .bool (r)) := by
 unfold r01_named at hg
 refine enter M noB func38 rfl rfl hM ?_
 intro a s
 apply wR
 refine asg s rfl rfl fun a s => ?_
 apply wN
 apply wQ
 apply wQ
 obtain ⟨k1, hg, hk1⟩ := jn_some hg
 refine c_post (fun a w => ∃ (t_2 : Bool), k1 t_2 = some r ∧ St (⟨Tryz.f38.ntmps, M, noB, w0⟩ : Ctx) [(0, vT s_), (1, .bool (big_)), (23, .bool (t_2))] [] [] a w) ?_ ?_
 ·rcases Decidable.em (((s_).length) < 1) with hs3 | hs3
  ·have hs3e := decide_eq_true hs3
   replace hg := br_t hg hs3
   apply wL
   refine mv s rfl rfl fun a s => ?_
   refine qq s rfl (y_lenStrN s rfl underlying9) fun a s => ?_
   refine qq s rfl (yl_b (y_lssN (i := ((s_).length)) (j := 1) s rfl rfl) hs3e) fun a s => ?_
   refine mv s rfl rfl fun a s => ?_
   refine gn s rfl fun a s => ?_
   refine gn s rfl fun a s => ?_
   refine gn s rfl fun a s => ?_
   refine qq s rfl (y_pick_t s rfl rfl) fun a s => ?_
   refine mv s rfl rfl fun a s => ?_
   refine gn s rfl fun a s => ?_
   refine gn s rfl fun a s => ?_
   refine gn s rfl fun a s => ?_
   refine qq s rfl (y_pick_t s rfl rfl) fun a s => ?_
   refine mv s rfl rfl fun a s => ?_
   refine gn s rfl fun a s => ?_
   refine gn s rfl fun a s => ?_
   refine gn s rfl fun a s => ?_
   refine qq s rfl (y_pick_t s rfl rfl) fun a s => ?_
   apply wN
   exact ⟨(true), hg, (s.sb rfl rfl rfl)⟩
  have hs3e := decide_eq_false hs3
  replace hg := br_f hg hs3
  rcases Decidable.em ((32 : Nat) < ((s_).length)) with hs4 | hs4
  ·have hs4e := decide_eq_true hs4
   replace hg := br_t hg hs4
   apply wL
   refine mv s rfl rfl fun a s => ?_
   refine qq s rfl (y_lenStrN s rfl underlying9) fun a s => ?_
   refine qq s rfl (yl_b (y_lssN (i := ((s_).length)) (j := 1) s rfl rfl) hs3e) fun a s => ?_
   refine mv s rfl rfl fun a s => ?_
   refine gm s rfl rfl fun a s => ?_
   refine gy s rfl (y_lenStrN s rfl underlying9) fun a s => ?_
   refine gy s rfl (yl_b (y_gtrN (i := ((s_).length)) (j := 32) s rfl rfl) hs4e) fun a s => ?_
   refine qq s rfl (y_pick_f s rfl rfl) fun a s => ?_
   refine mv s rfl rfl fun a s => ?_
   refine gn s rfl fun a s => ?_
   refine gn s rfl fun a s => ?_
   refine gn s rfl fun a s => ?_
   refine qq s rfl (y_pick_t s rfl rfl) fun a s => ?_
   refine mv s rfl rfl fun a s => ?_
   refine gn s rfl fun a s => ?_
   refine gn s rfl fun a s => ?_
   refine gn s rfl fun a s => ?_
   refine qq s rfl (y_pick_t s rfl rfl) fun a s => ?_
   apply wN
   exact ⟨(true), hg, (s.sb rfl rfl rfl)⟩
  have hs4e := decide_eq_false hs4
  replace hg := br_f hg hs4
  obtain ⟨c5, hc5, hg⟩ := bind_some hg
  obtain ⟨r6, hr6, hg⟩ := bind_some hg
  rcases Bool.eq_false_or_eq_true (r6) with hs9 | hs9
  ·replace hg := br_t hg hs9
   apply wL
   refine mv s rfl rfl fun a s => ?_
   refine qq s rfl (y_lenStrN s rfl underlying9) fun a s => ?_
   refine qq s rfl (yl_b (y_lssN (i := ((s_).length)) (j := 1) s rfl rfl) hs3e) fun a s => ?_
   refine mv s rfl rfl fun a s => ?_
   refine gm s rfl rfl fun a s => ?_
   refine gy s rfl (y_lenStrN s rfl underlying9) fun a s => ?_
   refine gy s rfl (yl_b (y_gtrN (i := ((s_).length)) (j := 32) s rfl rfl) hs4e) fun a s => ?_
   refine qq s rfl (y_pick_f s rfl rfl) fun a s => ?_
   refine mv s rfl rfl fun a s => ?_
   refine gm s rfl rfl fun a s => ?_
   refine gy s rfl (y_indexN (i := 0) s rfl rfl underlying9 rfl hc5) fun a s => ?_
   refine gl s rfl (l_call (cap := []) s rfl func56 rfl (by kernel_rfl) rfl rfl (c_r01_digit n _ _ s.lt c5 r6 hr6) fun v10 a w hK hp s => ?_)
   obtain rfl := hp.trans (congrArg Value.bool hs9)
   refine qq s rfl (y_pick_f s rfl rfl) fun a s => ?_
   refine mv s rfl rfl fun a s => ?_
   refine gn s rfl fun a s => ?_
   refine gn s rfl fun a s => ?_
   refine gn s rfl fun a s => ?_
   refine qq s rfl (y_pick_t s rfl rfl) fun a s => ?_
   apply wN
   exact ⟨(true), hg, (s.sb rfl rfl rfl)⟩
  replace hg := br_n hg hs9
  apply wL
  refine mv s rfl rfl fun a s => ?_
  refine qq s rfl (y_lenStrN s rfl underlying9) fun a s => ?_
  refine qq s rfl (yl_b (y_lssN (i := ((s_).length)) (j := 1) s rfl rfl) hs3e) fun a s => ?_
  refine mv s rfl rfl fun a s => ?_
  refine gm s rfl rfl fun a s => ?_
  refine gy s rfl (y_lenStrN s rfl underlying9) fun a s => ?_
  refine gy s rfl (yl_b (y_gtrN (i := ((s_).length)) (j := 32) s rfl rfl) hs4e) fun a s => ?_
  refine qq s rfl (y_pick_f s rfl rfl) fun a s => ?_
  refine mv s rfl rfl fun a s => ?_
  refine gm s rfl rfl fun a s => ?_
  refine gy s rfl (y_indexN (i := 0) s rfl rfl underlying9 rfl hc5) fun a s => ?_
  refine gl s rfl (l_call (cap := []) s rfl func56 rfl (by kernel_rfl) rfl rfl (c_r01_digit n _ _ s.lt c5 r6 hr6) fun v12 a w hK hp s => ?_)
  obtain rfl := hp.trans (congrArg Value.bool hs9)
  refine qq s rfl (y_pick_f s rfl rfl) fun a s => ?_
  refine mv s rfl rfl fun a s => ?_
  refine gm s rfl rfl fun a s => ?_
  refine gy s rfl (y_indexN (i := 0) s rfl rfl underlying9 rfl hc5) fun a s => ?_
  refine gy s rfl (y_eqlN (i := c5.toNat) (j := 45) s rfl rfl) fun a s => ?_
  refine qq s rfl (y_pick_f s rfl rfl) fun a s => ?_
  apply wN
  exact ⟨(decide (c5.toNat = 45)), hg, (s.sb rfl rfl rfl)⟩
 clear s a; rintro a w ⟨t_2, hg, s⟩
 subst hk1
 refine c_cond s rfl (fun hc14 => ?_) (fun hc14 => ?_)
 ·replace hg := br_t hg hc14
  apply wR
  refine asg s rfl rfl fun a s => ?_
  apply wN
  apply wp_ret
  refine p_thenR ?_
  obtain rfl := Option.some.inj hg
  refine fin1 (fn := Tryz.f38) s rfl (r_tmp s rfl) ?_
  exact rfl
 replace hg := br_n hg hc14
 apply wp_skip
 apply pN
 apply wQ
 apply wR
 refine asg s rfl rfl fun a s => ?_
 apply wN
 apply wp_block
 refine c_loop (σ := Nat) (fun m1 a w => ∃ (i_15 : Nat), r01_named_L0 n s_ big_ m1 i_15 = some r ∧ St (⟨Tryz.f38.ntmps, M, noB, w0⟩ : Ctx) [(0, vT s_), (1, .bool (big_)), (5, vI (((i_15 : Nat) : Int)))] [] [] a w) (fun m1 => m1) n ⟨(0), hg, (s.sb rfl rfl rfl)⟩ ?_
 clear s a; rintro m1 a w ⟨i_15, hg, s⟩
 rcases m1 with _ | m1
 ·rw [r01_named_L0] at hg; cases hg
 rw [r01_named_L0] at hg
 apply wQ
 apply wR
 refine mv s rfl rfl fun a s => ?_
 refine mv s rfl rfl fun a s => ?_
 refine qq s rfl (y_lenStrN s rfl underlying9) fun a s => ?_
 refine qq s rfl (y_lssN (i := i_15) (j := ((s_).length)) s rfl rfl) fun a s => ?_
 apply wN
 refine c_dec s rfl (fun hc16 => ?_) (fun hc16 => ?_)
 ·replace hg := br_t hg hc16
  have hmx17 : (s_).length ≤ 9223372036854775807 := (by omega)
  apply wp_skip
  apply pN
  apply wQ
  apply wp_block
  apply wQ
  obtain ⟨c18, hc18, hg⟩ := bind_some hg
  obtain ⟨r19, hr19, hg⟩ := bind_some hg
  apply wL
  refine mv s rfl rfl fun a s => ?_
  refine mv s rfl rfl fun a s => ?_
  refine qq s rfl (y_indexN (i := i_15) s rfl rfl underlying9 rfl hc18) fun a s => ?_
  refine mv s rfl rfl fun a s => ?_
  refine l_seq rfl (l_call (cap := []) s rfl func57 rfl (by kernel_rfl) rfl rfl (c_r01_part n _ _ s.lt c18 big_ r19 hr19) fun v22 a w hK hp s => ?_)
  obtain rfl := hp
  refine qq s rfl (y_not s rfl) fun a s => ?_
  apply wN
  refine c_cond s rfl (fun hc24 => ?_) (fun hc24 => ?_)
  ·replace hg := br_t hg hc24
   apply wR
   refine asg s rfl rfl fun a s => ?_
   apply wN
   apply wp_ret
   refine p_inR ?_
   refine p_thenR ?_
   refine p_thenR ?_
   refine p_inR ?_
   refine p_thenR ?_
   obtain rfl := Option.some.inj hg
   refine fin1 (fn := Tryz.f38) s rfl (r_tmp s rfl) ?_
   exact rfl
  replace hg := br_n hg hc24
  apply wp_skip
  refine p_inN ?_
  apply pN
  apply wL
  refine mv s rfl rfl fun a s => ?_
  refine qq s rfl (y_addN (i := i_15) (j := 1) s rfl rfl (in64.2 (by omega))) fun a s => ?_
  refine asg s rfl rfl fun a s => ?_
  apply wN
  exact ⟨m1, Nat.lt_succ_self _, ⟨(i_15 + 1), hg, (s.sb rfl rfl rfl)⟩⟩
 replace hg := br_f hg hc16
 apply wp_exit
 refine p_then ?_
 refine p_then ?_
 refine p_in ?_
 apply pN
 apply wR
 refine asg s rfl rfl fun a s => ?_
 apply wN
 apply wp_ret
 obtain rfl := Option.some.inj hg
 refine fin1 (fn := Tryz.f38) s rfl (r_tmp s rfl) ?_
 exact rfl
set_option maxHeartbeats 400000 in
theorem c_r01_Name (n : Nat) (M : Bs) (w0 : World) (hM : ∀ b, M b → b < w0.heap.size) (s_ : (List UInt8)) (lp01 : (s_).length ≤ 9223372036854775807) (r : Bool) (hg : r01_Name n s_ = some r) :
    Calls Tryz.prog 21 [.string (bs (s_))].toArray w0 (Ret noB w0 fun v w => v = .bool (r)) := by
 unfold r01_Name at hg
 refine enter M noB func21 rfl rfl hM ?_
 intro a s
 apply wR
 refine asg s rfl rfl fun a s => ?_
 apply wN
 apply wQ
 obtain ⟨r1, hr1, hg⟩ := bind_some hg
 apply wL
 refine mv s rfl rfl fun a s => ?_
 refine l_seq rfl (l_call (cap := []) s rfl func38 rfl (by kernel_rfl) rfl rfl (c_r01_named n _ _ s.lt s_ (by omega) false r1 hr1) fun v4 a w hK hp s => ?_)
 obtain rfl := hp
 refine asg s rfl rfl fun a s => ?_
 apply wN
 apply wp_ret
 obtain rfl := Option.some.inj hg
 refine fin1 (fn := Tryz.f21) s rfl (r_tmp s rfl) ?_
 exact rfl
set_option maxHeartbeats 400000 in
theorem c_r37_Split (n : Nat) (M : Bs) (w0 : World) (hM : ∀ b, M b → b < w0.heap.size) (s_ : (List UInt8)) (lp01 : (s_).length ≤ 9223372036854775807) (r : (List (List UInt8))) (hg : r37_Split n s_ = some r) :
    Calls Tryz.prog 22 [.string (bs (s_))].toArray w0 (Ret noB w0 fun v w => ∃ (Aa1 : Option Addr), ∃ (ca1 : Nat), v = .slice (Aa1) ((r).length) (ca1) ∧ (SlR Rep.str M w Aa1 (r).length ca1 (r))) := by
 unfold r37_Split at hg
 refine enter M noB func22 rfl rfl hM ?_
 intro a s
 apply wR
 refine asg s rfl rfl fun a s => ?_
 apply wN
 apply wR
 refine l_seq rfl (l_buildEmpty (sz := 1) s 1100 underlying44 rfl rfl rfl fun b2 a w hbb2 hK s => ?_)
 clear hbb2
 refine asg s rfl rfl fun a s => ?_
 apply wN
 apply wR
 refine asg s rfl rfl fun a s => ?_
 apply wN
 apply wQ
 apply wR
 refine asg s rfl rfl fun a s => ?_
 apply wN
 obtain ⟨k3, hg, hk3⟩ := jn_some hg
 refine c_post (fun a w => ∃ (out_4 : (List (List UInt8))) (from_8 : Nat) (A5 : Option Addr) (c6 : Nat) (cs7 : List Value), k3 out_4 from_8 = some r ∧ St (⟨Tryz.f22.ntmps, M, noB, w0⟩ : Ctx) [(0, vT s_), (3, sl A5 (out_4) c6), (4, vI (((from_8 : Nat) : Int)))] [(700101, Ob.row (A5) ((out_4).length) (c6) 9 1 (cs7))] [(102, rdF Rep.str (cs7) (out_4))] a w) ?_ ?_
 ·apply wp_block
  replace s := s.add 105 (rdF Rep.str ([]) ([])) (RdAll.nil _ _ _)
  replace s := s.al 104 105 rfl
  replace s := s.pk [(700103, 1100)] (by decide)
  refine c_loop (σ := Nat) (fun m1 a w => ∃ (out_9 : (List (List UInt8))) (from_13 : Nat) (i_14 : Nat) (A10 : Option Addr) (c11 : Nat) (cs12 : List Value), r37_Split_L0 n s_ k3 m1 out_9 from_13 i_14 = some r ∧ St (⟨Tryz.f22.ntmps, M, noB, w0⟩ : Ctx) [(0, vT s_), (3, sl A10 (out_9) c11), (4, vI (((from_13 : Nat) : Int))), (5, vI (((i_14 : Nat) : Int)))] [(700103, Ob.row (A10) ((out_9).length) (c11) 9 1 (cs12))] [(104, rdF Rep.str (cs12) (out_9))] a w) (fun m1 => m1) n ⟨([]), (0), (0), (some ⟨b2, 0, none⟩), (0), ([]), hg, (s.sb rfl rfl rfl)⟩ ?_
  clear s a; rintro m1 a w ⟨out_9, from_13, i_14, A10, c11, cs12, hg, s⟩
  rcases m1 with _ | m1
  ·rw [r37_Split_L0] at hg; cases hg
  rw [r37_Split_L0] at hg
  apply wQ
  apply wR
  refine mv s rfl rfl fun a s => ?_
  refine mv s rfl rfl fun a s => ?_
  refine qq s rfl (y_lenStrN s rfl underlying9) fun a s => ?_
  refine qq s rfl (y_lssN (i := i_14) (j := ((s_).length)) s rfl rfl) fun a s => ?_
  apply wN
  refine c_dec s rfl (fun hc15 => ?_) (fun hc15 => ?_)
  ·replace hg := br_t hg hc15
   have hmx16 : (s_).length ≤ 9223372036854775807 := (by omega)
   apply wp_skip
   apply pN
   apply wQ
   apply wp_block
   apply wQ
   obtain ⟨c17, hc17, hg⟩ := bind_some hg
   apply wL
   refine mv s rfl rfl fun a s => ?_
   refine mv s rfl rfl fun a s => ?_
   refine qq s rfl (y_indexN (i := i_14) s rfl rfl underlying9 rfl hc17) fun a s => ?_
   refine qq s rfl (y_eqlN (i := c17.toNat) (j := 32) s rfl rfl) fun a s => ?_
   apply wN
   refine c_dec s rfl (fun hc18 => ?_) (fun hc18 => ?_)
   ·replace hg := br_t hg hc18
    apply wQ
    obtain ⟨hk19, hg⟩ := chk_some hg
    obtain ⟨hk21, hg⟩ := chk_some hg
    apply wL
    refine mv s rfl rfl fun a s => ?_
    refine mv s rfl rfl fun a s => ?_
    refine mv s rfl rfl fun a s => ?_
    refine mv s rfl rfl fun a s => ?_
    refine qq s rfl (y_strLH (i := from_13) (j := i_14) s rfl rfl rfl underlying9 rfl rfl hk19.1 hk19.2) fun a s => ?_
    refine l_seq rfl (l_buildDense (sz := 1) s 1705 rfl rfl rfl underlying44 rfl rfl rfl rfl rfl rfl rfl fun b24 a w hbb24 hK s => ?_)
    clear hbb24
    replace s := s.add 108 (rdF Rep.str (cellsOfL [vT (((s_).drop from_13).take (i_14 - from_13))]) ([((s_).drop from_13).take (i_14 - from_13)])) (RdAll.cons (by exact ⟨rfl, (by first | omega | (rw [List.length_append]; omega) | (simp only [List.length_append]; omega) | (simp only [List.length_append, List.length_take, List.length_drop, List.length_cons, List.length_nil]; omega) | exact smin_len (by omega) (by omega))⟩) (RdAll.nil _ _ _))
    have hs26 := row_src (s.wd.holds 1705 _ rfl) (RdAll.one (s.ft 108 rfl))
    refine l_seq rfl (l_append (sz := 1) (by_ := 16) (N := (out_9 ++ [((s_).drop from_13).take (i_14 - from_13)]).length) (ys := cs12 ++ (cellsOfL [vT (((s_).drop from_13).take (i_14 - from_13))])) s 700103 rfl rfl rfl underlying44 rfl rfl rfl rfl rfl hs26 (by first | (simp; done) | (simp; omega)) rfl (by have hr := hk21; clear hg; first | omega | (simp only [List.length_append, List.length_cons, List.length_nil] at hr ⊢; omega) | (simp at hr ⊢; omega)) (by have hr := hk21; clear hg; first | omega | (simp only [List.length_append, List.length_cons, List.length_nil] at hr ⊢; omega) | (simp at hr ⊢; omega)) rfl fun Aq25 cq25 a w hA hK s => ?_)
    replace s := s.add 109 (rdF Rep.str (cs12 ++ (cellsOfL [vT (((s_).drop from_13).take (i_14 - from_13))])) (out_9 ++ [((s_).drop from_13).take (i_14 - from_13)])) (RdAll.append (s.ft 104 rfl) (s.ft 108 rfl))
    refine asg s rfl rfl fun a s => ?_
    apply wN
    apply wL
    refine mv s rfl rfl fun a s => ?_
    refine qq s rfl (y_addN (i := i_14) (j := 1) s rfl rfl (in64.2 (by omega))) fun a s => ?_
    refine asg s rfl rfl fun a s => ?_
    apply wO
    refine p_inN ?_
    apply pN
    apply wL
    refine mv s rfl rfl fun a s => ?_
    refine qq s rfl (y_addN (i := i_14) (j := 1) s rfl rfl (in64.2 (by omega))) fun a s => ?_
    refine asg s rfl rfl fun a s => ?_
    apply wN
    replace s := s.add 104 (rdF Rep.str (cs12 ++ (cellsOfL [vT (((s_).drop from_13).take (i_14 - from_13))])) (out_9 ++ [((s_).drop from_13).take (i_14 - from_13)])) (s.ft 109 rfl)
    exact ⟨m1, Nat.lt_succ_self _, ⟨(out_9 ++ [((s_).drop from_13).take (i_14 - from_13)]), (i_14 + 1), (i_14 + 1), (Aq25), (cq25), (cs12 ++ (cellsOfL [vT (((s_).drop from_13).take (i_14 - from_13))])), hg, (s.sb rfl rfl rfl)⟩⟩
   replace hg := br_f hg hc18
   apply wp_skip
   refine p_inN ?_
   apply pN
   apply wL
   refine mv s rfl rfl fun a s => ?_
   refine qq s rfl (y_addN (i := i_14) (j := 1) s rfl rfl (in64.2 (by omega))) fun a s => ?_
   refine asg s rfl rfl fun a s => ?_
   apply wN
   replace s := s.al 104 104 rfl
   exact ⟨m1, Nat.lt_succ_self _, ⟨(out_9), (from_13), (i_14 + 1), (A10), (c11), (cs12), hg, (s.sb rfl rfl rfl)⟩⟩
  replace hg := br_f hg hc15
  apply wp_exit
  refine p_then ?_
  refine p_then ?_
  refine p_in ?_
  apply pN
  replace s := s.al 102 104 rfl
  replace s := s.pk [(700101, 700103)] (by decide)
  exact ⟨(out_9), (from_13), (A10), (c11), (cs12), hg, (s.sb rfl rfl rfl)⟩
 clear s a; rintro a w ⟨out_4, from_8, A5, c6, cs7, hg, s⟩
 subst hk3
 apply wQ
 obtain ⟨hk27, hg⟩ := chk_some hg
 obtain ⟨hk29, hg⟩ := chk_some hg
 apply wL
 refine mv s rfl rfl fun a s => ?_
 refine mv s rfl rfl fun a s => ?_
 refine mv s rfl rfl fun a s => ?_
 refine qq s rfl (y_strL (i := from_8) s rfl rfl underlying9 rfl hk27) fun a s => ?_
 refine l_seq rfl (l_buildDense (sz := 1) s 1904 rfl rfl rfl underlying44 rfl rfl rfl rfl rfl rfl rfl fun b32 a w hbb32 hK s => ?_)
 clear hbb32
 replace s := s.add 112 (rdF Rep.str (cellsOfL [vT ((s_).drop from_8)]) ([(s_).drop from_8])) (RdAll.cons (by exact ⟨rfl, (by first | omega | (rw [List.length_append]; omega) | (simp only [List.length_append]; omega) | (simp only [List.length_append, List.length_take, List.length_drop, List.length_cons, List.length_nil]; omega) | exact smin_len (by omega) (by omega))⟩) (RdAll.nil _ _ _))
 have hs34 := row_src (s.wd.holds 1904 _ rfl) (RdAll.one (s.ft 112 rfl))
 refine l_seq rfl (l_append (sz := 1) (by_ := 16) (N := (out_4 ++ [(s_).drop from_8]).length) (ys := cs7 ++ (cellsOfL [vT ((s_).drop from_8)])) s 700101 rfl rfl rfl underlying44 rfl rfl rfl rfl rfl hs34 (by first | (simp; done) | (simp; omega)) rfl (by have hr := hk29; clear hg; first | omega | (simp only [List.length_append, List.length_cons, List.length_nil] at hr ⊢; omega) | (simp at hr ⊢; omega)) (by have hr := hk29; clear hg; first | omega | (simp only [List.length_append, List.length_cons, List.length_nil] at hr ⊢; omega) | (simp at hr ⊢; omega)) rfl fun Aq33 cq33 a w hA hK s => ?_)
 replace s := s.add 113 (rdF Rep.str (cs7 ++ (cellsOfL [vT ((s_).drop from_8)])) (out_4 ++ [(s_).drop from_8])) (RdAll.append (s.ft 102 rfl) (s.ft 112 rfl))
 refine asg s rfl rfl fun a s => ?_
 apply wN
 apply wp_ret
 obtain rfl := Option.some.inj hg
 refine fin1 (fn := Tryz.f22) s rfl (r_tmp s rfl) ?_
 exact ⟨(Aq33), (cq33), rfl, (s.rowOut (R := Rep.str) (kk := 700101) rfl rfl (s.ft 113 rfl))⟩
set_option maxHeartbeats 400000 in
theorem c_r37_feature (n : Nat) (M : Bs) (w0 : World) (hM : ∀ b, M b → b < w0.heap.size) (s_ : (List UInt8)) (lp01 : (s_).length ≤ 9223372036854775807) (r : Bool) (hg : r37_feature n s_ = some r) :
    Calls Tryz.prog 11 [.string (bs (s_))].toArray w0 (Ret noB w0 fun v w => v = .bool (r)) := by
 unfold r37_feature at hg
 refine enter M noB func11 rfl rfl hM ?_
 intro a s
 apply wR
 refine asg s rfl rfl fun a s => ?_
 apply wN
 apply wQ
 apply wQ
 obtain ⟨r1, hr1, hg⟩ := bind_some hg
 apply wL
 refine mv s rfl rfl fun a s => ?_
 refine l_seq rfl (l_call (cap := []) s rfl func21 rfl (by kernel_rfl) rfl rfl (c_r01_Name n _ _ s.lt s_ (by omega) r1 hr1) fun v4 a w hK hp s => ?_)
 obtain rfl := hp
 apply wN
 refine c_cond s rfl (fun hc6 => ?_) (fun hc6 => ?_)
 ·replace hg := br_t hg hc6
  apply wR
  refine asg s rfl rfl fun a s => ?_
  apply wN
  apply wp_ret
  refine p_thenR ?_
  obtain rfl := Option.some.inj hg
  refine fin1 (fn := Tryz.f11) s rfl (r_tmp s rfl) ?_
  exact rfl
 replace hg := br_n hg hc6
 apply wp_skip
 apply pN
 apply wQ
 apply wR
 refine asg s rfl rfl fun a s => ?_
 apply wN
 apply wp_block
 refine c_loop (σ := Nat) (fun m1 a w => ∃ (i_7 : Nat), r37_feature_L0 n s_ m1 i_7 = some r ∧ St (⟨Tryz.f11.ntmps, M, noB, w0⟩ : Ctx) [(0, vT s_), (3, vI (((i_7 : Nat) : Int)))] [] [] a w) (fun m1 => m1) n ⟨(0), hg, (s.sb rfl rfl rfl)⟩ ?_
 clear s a; rintro m1 a w ⟨i_7, hg, s⟩
 rcases m1 with _ | m1
 ·rw [r37_feature_L0] at hg; cases hg
 rw [r37_feature_L0] at hg
 apply wQ
 apply wR
 refine mv s rfl rfl fun a s => ?_
 refine mv s rfl rfl fun a s => ?_
 refine qq s rfl (y_lenStrN s rfl underlying9) fun a s => ?_
 refine qq s rfl (y_lssN (i := i_7) (j := ((s_).length)) s rfl rfl) fun a s => ?_
 apply wN
 refine c_dec s rfl (fun hc8 => ?_) (fun hc8 => ?_)
 ·replace hg := br_t hg hc8
  have hmx9 : (s_).length ≤ 9223372036854775807 := (by omega)
  apply wp_skip
  apply pN
  apply wQ
  apply wp_block
  apply wQ
  apply wQ
  obtain ⟨c10, hc10, hg⟩ := bind_some hg
  apply wL
  refine mv s rfl rfl fun a s => ?_
  refine mv s rfl rfl fun a s => ?_
  refine qq s rfl (y_indexN (i := i_7) s rfl rfl underlying9 rfl hc10) fun a s => ?_
  refine qq s rfl (y_neqN (i := c10.toNat) (j := 62) s rfl rfl) fun a s => ?_
  apply wN
  refine c_dec s rfl (fun hc11 => ?_) (fun hc11 => ?_)
  ·replace hg := br_t hg hc11
   apply wp_exit
   refine p_then ?_
   refine p_in ?_
   apply pN
   apply wL
   refine mv s rfl rfl fun a s => ?_
   refine qq s rfl (y_addN (i := i_7) (j := 1) s rfl rfl (in64.2 (by omega))) fun a s => ?_
   refine asg s rfl rfl fun a s => ?_
   apply wN
   exact ⟨m1, Nat.lt_succ_self _, ⟨(i_7 + 1), hg, (s.sb rfl rfl rfl)⟩⟩
  replace hg := br_f hg hc11
  apply wp_skip
  apply pN
  apply wQ
  obtain ⟨hk12, hg⟩ := chk_some hg
  obtain ⟨r13, hr13, hg⟩ := bind_some hg
  apply wL
  refine mv s rfl rfl fun a s => ?_
  refine mv s rfl rfl fun a s => ?_
  refine qq s rfl (y_addN (i := i_7) (j := 1) s rfl rfl (in64.2 (by omega))) fun a s => ?_
  refine qq s rfl (y_strL (i := (i_7 + 1)) s rfl rfl underlying9 rfl hk12) fun a s => ?_
  refine l_seq rfl (l_call (cap := []) s rfl func22 rfl (by kernel_rfl) rfl rfl (c_r37_Split n _ _ s.lt ((s_).drop (i_7 + 1)) (by first | omega | (rw [List.length_append]; omega) | (simp only [List.length_append]; omega) | (simp only [List.length_append, List.length_take, List.length_drop, List.length_cons, List.length_nil]; omega) | exact smin_len (by omega) (by omega)) r13 hr13) fun v16 a w hK hp s => ?_)
  obtain ⟨Au17a1, cu17a1, rfl, hu17a1⟩ := hp
  replace s := s.ns 102 hu17a1
  refine asg s rfl rfl fun a s => ?_
  apply wN
  apply wQ
  apply wQ
  obtain ⟨k18, hg, hk18⟩ := jn_some hg
  refine c_post (fun a w => ∃ (t_19 : Bool), k18 t_19 = some r ∧ St (⟨Tryz.f11.ntmps, M, noB, w0⟩ : Ctx) [(4, sl Au17a1 (r13) cu17a1), (32, .bool (t_19))] [] [(102, slF Rep.str (Au17a1) ((r13).length) (cu17a1) (r13))] a w) ?_ ?_
  ·obtain ⟨hk20, hg⟩ := chk_some hg
   obtain ⟨r21, hr21, hg⟩ := bind_some hg
   rcases Bool.eq_false_or_eq_true (!(r21)) with hs24 | hs24
   ·replace hg := br_t hg hs24
    apply wL
    refine mv s rfl rfl fun a s => ?_
    refine mv s rfl rfl fun a s => ?_
    refine qq s rfl (y_strH (i := i_7) s rfl rfl underlying9 rfl hk20) fun a s => ?_
    refine l_seq rfl (l_call (cap := []) s rfl func21 rfl (by kernel_rfl) rfl rfl (c_r01_Name n _ _ s.lt ((s_).take i_7) (by first | omega | (rw [List.length_append]; omega) | (simp only [List.length_append]; omega) | (simp only [List.length_append, List.length_take, List.length_drop, List.length_cons, List.length_nil]; omega) | exact smin_len (by omega) (by omega)) r21 hr21) fun v25 a w hK hp s => ?_)
    obtain rfl := hp
    refine qq s rfl (yl_b (y_not s rfl) hs24) fun a s => ?_
    refine mv s rfl rfl fun a s => ?_
    refine gn s rfl fun a s => ?_
    refine gn s rfl fun a s => ?_
    refine gn s rfl fun a s => ?_
    refine qq s rfl (y_pick_t s rfl rfl) fun a s => ?_
    apply wN
    exact ⟨(true), hg, (s.sb rfl rfl rfl)⟩
   replace hg := br_n hg hs24
   apply wL
   refine mv s rfl rfl fun a s => ?_
   refine mv s rfl rfl fun a s => ?_
   refine qq s rfl (y_strH (i := i_7) s rfl rfl underlying9 rfl hk20) fun a s => ?_
   refine l_seq rfl (l_call (cap := []) s rfl func21 rfl (by kernel_rfl) rfl rfl (c_r01_Name n _ _ s.lt ((s_).take i_7) (by first | omega | (rw [List.length_append]; omega) | (simp only [List.length_append]; omega) | (simp only [List.length_append, List.length_take, List.length_drop, List.length_cons, List.length_nil]; omega) | exact smin_len (by omega) (by omega)) r21 hr21) fun v27 a w hK hp s => ?_)
   obtain rfl := hp
   refine qq s rfl (yl_b (y_not s rfl) hs24) fun a s => ?_
   refine mv s rfl rfl fun a s => ?_
   refine gm s rfl rfl fun a s => ?_
   refine gy s rfl (y_lenSlice s rfl underlying44) fun a s => ?_
   refine gy s rfl (y_gtrN (i := ((r13).length)) (j := 2) s rfl rfl) fun a s => ?_
   refine qq s rfl (y_pick_f s rfl rfl) fun a s => ?_
   apply wN
   exact ⟨(decide ((2 : Nat) < ((r13).length))), hg, (s.sb rfl rfl rfl)⟩
  clear s a; rintro a w ⟨t_19, hg, s⟩
  subst hk18
  refine c_cond s rfl (fun hc29 => ?_) (fun hc29 => ?_)
  ·replace hg := br_t hg hc29
   apply wR
   refine asg s rfl rfl fun a s => ?_
   apply wN
   apply wp_ret
   refine p_thenR ?_
   refine p_inR ?_
   refine p_thenR ?_
   refine p_thenR ?_
   refine p_inR ?_
   refine p_thenR ?_
   obtain rfl := Option.some.inj hg
   refine fin1 (fn := Tryz.f11) s rfl (r_tmp s rfl) ?_
   exact rfl
  replace hg := br_n hg hc29
  apply wp_skip
  apply pN
  apply wQ
  apply wR
  refine asg s rfl rfl fun a s => ?_
  apply wN
  apply wp_block
  refine c_loop (σ := Nat) (fun m2 a w => ∃ (k_30 : Nat), r37_feature_L1 n r13 m2 k_30 = some r ∧ St (⟨Tryz.f11.ntmps, M, noB, w0⟩ : Ctx) [(4, sl Au17a1 (r13) cu17a1), (5, vI (((k_30 : Nat) : Int)))] [] [(102, slF Rep.str (Au17a1) ((r13).length) (cu17a1) (r13))] a w) (fun m2 => m2) n ⟨(0), hg, (s.sb rfl rfl rfl)⟩ ?_
  clear s a; rintro m2 a w ⟨k_30, hg, s⟩
  rcases m2 with _ | m2
  ·rw [r37_feature_L1] at hg; cases hg
  rw [r37_feature_L1] at hg
  apply wQ
  apply wR
  refine mv s rfl rfl fun a s => ?_
  refine mv s rfl rfl fun a s => ?_
  refine qq s rfl (y_lenSlice s rfl underlying44) fun a s => ?_
  refine qq s rfl (y_lssN (i := k_30) (j := ((r13).length)) s rfl rfl) fun a s => ?_
  apply wN
  refine c_dec s rfl (fun hc31 => ?_) (fun hc31 => ?_)
  ·replace hg := br_t hg hc31
   have hmx32 := SlR.mx (s.ft 102 rfl)
   apply wp_skip
   apply pN
   apply wQ
   apply wp_block
   apply wQ
   obtain ⟨x34, hx34, hg⟩ := bind_some hg
   obtain ⟨r36, hr36, hg⟩ := bind_some hg
   apply wL
   refine mv s rfl rfl fun a s => ?_
   refine mv s rfl rfl fun a s => ?_
   obtain ⟨p39, hep39, hpp39⟩ := SlR.elemX (s.ft 102 rfl) hx34
   refine qq s rfl (y_elem (sz := 1) (i := k_30) s rfl rfl underlying44 rfl hep39 rfl (lt_of_get hx34)) fun a s => ?_
   obtain ⟨hlq40, hmq40, csq40, hdq40, hcq40⟩ := hpp39
   obtain ⟨rfl, lq401⟩ := hdq40
   refine qq s rfl (y_ldp1 s rfl hlq40 hmq40 (hcq40 0 _ rfl) underlying9 rfl) fun a s => ?_
   refine l_seq rfl (l_call (cap := []) s rfl func21 rfl (by kernel_rfl) rfl rfl (c_r01_Name n _ _ s.lt x34 (by omega) r36 hr36) fun v41 a w hK hp s => ?_)
   obtain rfl := hp
   refine qq s rfl (y_not s rfl) fun a s => ?_
   apply wN
   refine c_cond s rfl (fun hc43 => ?_) (fun hc43 => ?_)
   ·replace hg := br_t hg hc43
    apply wR
    refine asg s rfl rfl fun a s => ?_
    apply wN
    apply wp_ret
    refine p_inR ?_
    refine p_thenR ?_
    refine p_thenR ?_
    refine p_inR ?_
    refine p_thenR ?_
    refine p_inR ?_
    refine p_thenR ?_
    refine p_thenR ?_
    refine p_inR ?_
    refine p_thenR ?_
    obtain rfl := Option.some.inj hg
    refine fin1 (fn := Tryz.f11) s rfl (r_tmp s rfl) ?_
    exact rfl
   replace hg := br_n hg hc43
   apply wp_skip
   refine p_inN ?_
   apply pN
   apply wL
   refine mv s rfl rfl fun a s => ?_
   refine qq s rfl (y_addN (i := k_30) (j := 1) s rfl rfl (in64.2 (by omega))) fun a s => ?_
   refine asg s rfl rfl fun a s => ?_
   apply wN
   exact ⟨m2, Nat.lt_succ_self _, ⟨(k_30 + 1), hg, (s.sb rfl rfl rfl)⟩⟩
  replace hg := br_f hg hc31
  apply wp_exit
  refine p_then ?_
  refine p_then ?_
  refine p_in ?_
  apply pN
  apply wR
  refine asg s rfl rfl fun a s => ?_
  apply wN
  apply wp_ret
  refine p_inR ?_
  refine p_thenR ?_
  refine p_thenR ?_
  refine p_inR ?_
  refine p_thenR ?_
  obtain rfl := Option.some.inj hg
  refine fin1 (fn := Tryz.f11) s rfl (r_tmp s rfl) ?_
  exact rfl
 replace hg := br_f hg hc8
 apply wp_exit
 refine p_then ?_
 refine p_then ?_
 refine p_in ?_
 apply pN
 apply wR
 refine asg s rfl rfl fun a s => ?_
 apply wN
 apply wp_ret
 obtain rfl := Option.some.inj hg
 refine fin1 (fn := Tryz.f11) s rfl (r_tmp s rfl) ?_
 exact rfl
end Go.Proofs.YthgdajiipojnoaaGreatDoor
