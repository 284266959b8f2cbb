/- Chapter 37: the walks, part 8 -/
import Derived.Test.YthgdajiipojnoaaGreatDoorW7
namespace Go.Proofs.YthgdajiipojnoaaGreatDoor
open Go.Gl Go.RowKit Tryz
set_option linter.unusedVariables false
set_option linter.unusedSimpArgs false
set_option maxRecDepth 4000

set_option maxHeartbeats 400000 in
theorem c_r28_ints (n : Nat) (M : Bs) (w0 : World) (hM : ∀ b, M b → b < w0.heap.size) (a_ : Int) (b_ : Int) (r : Int) (hg : r28_ints n a_ b_ = some r) :
    Calls Tryz.prog 55 [.int .i64 (a_), .int .i64 (b_)].toArray w0 (Ret noB w0 fun v w => v = .int .i64 (r)) := by
 unfold r28_ints at hg
 refine enter M noB func55 rfl rfl hM ?_
 intro a s
 apply wR
 refine asg s rfl rfl fun a s => ?_
 apply wN
 apply wQ
 apply wR
 refine mv s rfl rfl fun a s => ?_
 refine mv s rfl rfl fun a s => ?_
 refine qq s rfl (y_lss s rfl rfl) fun a s => ?_
 apply wN
 refine c_dec s rfl (fun hc1 => ?_) (fun hc1 => ?_)
 ·replace hg := br_t hg hc1
  apply wR
  refine asg s rfl rfl fun a s => ?_
  apply wN
  apply wp_ret
  refine p_thenR ?_
  obtain rfl := Option.some.inj hg
  refine fin1 (fn := Tryz.f55) s rfl (r_tmp s rfl) ?_
  exact rfl
 replace hg := br_f hg hc1
 apply wp_skip
 apply pN
 apply wQ
 apply wR
 refine mv s rfl rfl fun a s => ?_
 refine mv s rfl rfl fun a s => ?_
 refine qq s rfl (y_gtr s rfl rfl) fun a s => ?_
 apply wN
 refine c_dec s rfl (fun hc2 => ?_) (fun hc2 => ?_)
 ·replace hg := br_t hg hc2
  apply wR
  refine asg s rfl rfl fun a s => ?_
  apply wN
  apply wp_ret
  refine p_thenR ?_
  obtain rfl := Option.some.inj hg
  refine fin1 (fn := Tryz.f55) s rfl (r_tmp s rfl) ?_
  exact rfl
 replace hg := br_f hg hc2
 apply wp_skip
 apply pN
 apply wR
 refine asg s rfl rfl fun a s => ?_
 apply wN
 apply wp_ret
 obtain rfl := Option.some.inj hg
 refine fin1 (fn := Tryz.f55) s rfl (r_tmp s rfl) ?_
 exact rfl
set_option maxHeartbeats 400000 in
theorem c_r28_Compare (n : Nat) : ∀ (M : Bs) (w0 : World) (hM : ∀ b, M b → b < w0.heap.size) (t_ : Deriv) (Ap05 : Option Addr) (cp05 : Nat) (lp02 : (t_.Name).length ≤ 9223372036854775807) (hp05 : SlR RDeriv M w0 Ap05 (t_.Kids).length cp05 (t_.Kids)) (t_' : Deriv) (Ap15 : Option Addr) (cp15 : Nat) (lp12 : (t_'.Name).length ≤ 9223372036854775807) (hp15 : SlR RDeriv M w0 Ap15 (t_'.Kids).length cp15 (t_'.Kids)) (r : Int) (hg : r28_Compare n t_ t_' = some r),
    Calls Tryz.prog 33 [.agg #[.int .i64 (t_.Kind), .string (bs (t_.Name)), .int .i64 (t_.From), .int .i64 (t_.To), .slice (Ap05) ((t_.Kids).length) (cp05)], .agg #[.int .i64 (t_'.Kind), .string (bs (t_'.Name)), .int .i64 (t_'.From), .int .i64 (t_'.To), .slice (Ap15) ((t_'.Kids).length) (cp15)]].toArray w0 (Ret noB w0 fun v w => v = .int .i64 (r)) := by
 induction n with
 | zero => intros; rename_i hg; rw [r28_Compare] at hg; cases hg
 | succ n c_self =>
 intro M w0 hM t_ Ap05 cp05 lp02 hp05 t_' Ap15 cp15 lp12 hp15 r hg
 rw [r28_Compare] at hg
 refine enter M noB func33 rfl rfl hM ?_
 intro a s
 replace s := s.es 101 hp05
 replace s := s.es 102 hp15
 apply wR
 refine l_seq rfl (l_box (zs := [vI (t_.Kind), vT (t_.Name), vI (t_.From), vI (t_.To), sl Ap05 (t_.Kids) cp05]) s 1000 rfl rfl rfl rfl fun b3 a w hb hK s => ?_)
 refine l_seq rfl (l_box (zs := [vI (t_'.Kind), vT (t_'.Name), vI (t_'.From), vI (t_'.To), sl Ap15 (t_'.Kids) cp15]) s 1001 rfl rfl rfl rfl fun b4 a w hb hK s => ?_)
 refine asg s rfl rfl fun a s => ?_
 apply wN
 apply wQ
 apply wR
 refine qq s rfl (y_boxField (o' := 2) s rfl underlying42 rfl rfl rfl) fun a s => ?_
 refine qq s rfl (y_loadBox1 (kk := 1000) s rfl rfl rfl underlying3 rfl) fun a s => ?_
 refine qq s rfl (y_boxField (o' := 2) s rfl underlying42 rfl rfl rfl) fun a s => ?_
 refine qq s rfl (y_loadBox1 (kk := 1001) s rfl rfl rfl underlying3 rfl) fun a s => ?_
 refine qq s rfl (y_neq s rfl rfl) fun a s => ?_
 apply wN
 refine c_dec s rfl (fun hc5 => ?_) (fun hc5 => ?_)
 ·replace hg := br_t hg hc5
  apply wQ
  obtain ⟨r6, hr6, hg⟩ := bind_some hg
  apply wL
  refine qq s rfl (y_boxField (o' := 2) s rfl underlying42 rfl rfl rfl) fun a s => ?_
  refine qq s rfl (y_loadBox1 (kk := 1000) s rfl rfl rfl underlying3 rfl) fun a s => ?_
  refine qq s rfl (y_boxField (o' := 2) s rfl underlying42 rfl rfl rfl) fun a s => ?_
  refine qq s rfl (y_loadBox1 (kk := 1001) s rfl rfl rfl underlying3 rfl) fun a s => ?_
  refine l_seq rfl (l_call (cap := []) s rfl func55 rfl (by kernel_rfl) rfl rfl (c_r28_ints n _ _ s.lt t_.From t_'.From r6 hr6) fun v9 a w hK hp s => ?_)
  obtain rfl := hp
  refine asg s rfl rfl fun a s => ?_
  apply wN
  apply wp_ret
  refine p_thenR ?_
  obtain rfl := Option.some.inj hg
  refine fin1 (fn := Tryz.f33) s rfl (r_tmp s rfl) ?_
  exact rfl
 replace hg := br_f hg hc5
 apply wp_skip
 apply pN
 apply wQ
 apply wR
 refine qq s rfl (y_boxField (o' := 3) s rfl underlying42 rfl rfl rfl) fun a s => ?_
 refine qq s rfl (y_loadBox1 (kk := 1000) s rfl rfl rfl underlying3 rfl) fun a s => ?_
 refine qq s rfl (y_boxField (o' := 3) s rfl underlying42 rfl rfl rfl) fun a s => ?_
 refine qq s rfl (y_loadBox1 (kk := 1001) s rfl rfl rfl underlying3 rfl) fun a s => ?_
 refine qq s rfl (y_neq s rfl rfl) fun a s => ?_
 apply wN
 refine c_dec s rfl (fun hc11 => ?_) (fun hc11 => ?_)
 ·replace hg := br_t hg hc11
  apply wQ
  obtain ⟨r12, hr12, hg⟩ := bind_some hg
  apply wL
  refine qq s rfl (y_boxField (o' := 3) s rfl underlying42 rfl rfl rfl) fun a s => ?_
  refine qq s rfl (y_loadBox1 (kk := 1000) s rfl rfl rfl underlying3 rfl) fun a s => ?_
  refine qq s rfl (y_boxField (o' := 3) s rfl underlying42 rfl rfl rfl) fun a s => ?_
  refine qq s rfl (y_loadBox1 (kk := 1001) s rfl rfl rfl underlying3 rfl) fun a s => ?_
  refine l_seq rfl (l_call (cap := []) s rfl func55 rfl (by kernel_rfl) rfl rfl (c_r28_ints n _ _ s.lt t_.To t_'.To r12 hr12) fun v15 a w hK hp s => ?_)
  obtain rfl := hp
  refine asg s rfl rfl fun a s => ?_
  apply wN
  apply wp_ret
  refine p_thenR ?_
  obtain rfl := Option.some.inj hg
  refine fin1 (fn := Tryz.f33) s rfl (r_tmp s rfl) ?_
  exact rfl
 replace hg := br_f hg hc11
 apply wp_skip
 apply pN
 apply wQ
 apply wR
 refine qq s rfl (y_boxField (o' := 0) s rfl underlying42 rfl rfl rfl) fun a s => ?_
 refine qq s rfl (y_loadBox1 (kk := 1000) s rfl rfl rfl underlying3 rfl) fun a s => ?_
 refine qq s rfl (y_boxField (o' := 0) s rfl underlying42 rfl rfl rfl) fun a s => ?_
 refine qq s rfl (y_loadBox1 (kk := 1001) s rfl rfl rfl underlying3 rfl) fun a s => ?_
 refine qq s rfl (y_neq s rfl rfl) fun a s => ?_
 apply wN
 refine c_dec s rfl (fun hc17 => ?_) (fun hc17 => ?_)
 ·replace hg := br_t hg hc17
  apply wQ
  obtain ⟨r18, hr18, hg⟩ := bind_some hg
  apply wL
  refine qq s rfl (y_boxField (o' := 0) s rfl underlying42 rfl rfl rfl) fun a s => ?_
  refine qq s rfl (y_loadBox1 (kk := 1000) s rfl rfl rfl underlying3 rfl) fun a s => ?_
  refine qq s rfl (y_boxField (o' := 0) s rfl underlying42 rfl rfl rfl) fun a s => ?_
  refine qq s rfl (y_loadBox1 (kk := 1001) s rfl rfl rfl underlying3 rfl) fun a s => ?_
  refine l_seq rfl (l_call (cap := []) s rfl func55 rfl (by kernel_rfl) rfl rfl (c_r28_ints n _ _ s.lt t_.Kind t_'.Kind r18 hr18) fun v21 a w hK hp s => ?_)
  obtain rfl := hp
  refine asg s rfl rfl fun a s => ?_
  apply wN
  apply wp_ret
  refine p_thenR ?_
  obtain rfl := Option.some.inj hg
  refine fin1 (fn := Tryz.f33) s rfl (r_tmp s rfl) ?_
  exact rfl
 replace hg := br_f hg hc17
 apply wp_skip
 apply pN
 apply wQ
 apply wR
 refine qq s rfl (y_boxField (o' := 1) s rfl underlying42 rfl rfl rfl) fun a s => ?_
 refine qq s rfl (y_loadBox1 (kk := 1000) s rfl rfl rfl underlying9 rfl) fun a s => ?_
 refine qq s rfl (y_boxField (o' := 1) s rfl underlying42 rfl rfl rfl) fun a s => ?_
 refine qq s rfl (y_loadBox1 (kk := 1001) s rfl rfl rfl underlying9 rfl) fun a s => ?_
 refine qq s rfl (y_sne s rfl rfl) fun a s => ?_
 apply wN
 refine c_dec s rfl (fun hc23 => ?_) (fun hc23 => ?_)
 ·replace hg := br_t hg hc23
  apply wQ
  apply wR
  refine qq s rfl (y_boxField (o' := 1) s rfl underlying42 rfl rfl rfl) fun a s => ?_
  refine qq s rfl (y_loadBox1 (kk := 1000) s rfl rfl rfl underlying9 rfl) fun a s => ?_
  refine qq s rfl (y_boxField (o' := 1) s rfl underlying42 rfl rfl rfl) fun a s => ?_
  refine qq s rfl (y_loadBox1 (kk := 1001) s rfl rfl rfl underlying9 rfl) fun a s => ?_
  refine qq s rfl (y_slss s rfl rfl) fun a s => ?_
  apply wN
  refine c_cond s rfl (fun hc24 => ?_) (fun hc24 => ?_)
  ·replace hg := br_t hg hc24
   apply wR
   refine asg s rfl rfl fun a s => ?_
   apply wN
   apply wp_ret
   refine p_thenR ?_
   refine p_thenR ?_
   obtain rfl := Option.some.inj hg
   refine fin1 (fn := Tryz.f33) s rfl (r_tmp s rfl) ?_
   exact rfl
  replace hg := br_n hg hc24
  apply wp_skip
  apply pN
  apply wR
  refine asg s rfl rfl fun a s => ?_
  apply wN
  apply wp_ret
  refine p_thenR ?_
  obtain rfl := Option.some.inj hg
  refine fin1 (fn := Tryz.f33) s rfl (r_tmp s rfl) ?_
  exact rfl
 replace hg := br_f hg hc23
 apply wp_skip
 apply pN
 apply wQ
 apply wR
 refine asg s rfl rfl fun a s => ?_
 apply wN
 obtain ⟨k25, hg, hk25⟩ := jn_some hg
 refine c_post (fun a w => k25 = some r ∧ St (⟨Tryz.f33.ntmps, M, noB, w0⟩ : Ctx) [(2, vP b3 0), (3, vP b4 0)] [(1000, Ob.box b3 [vI (t_.Kind), vT (t_.Name), vI (t_.From), vI (t_.To), sl Ap05 (t_.Kids) cp05] 42), (1001, Ob.box b4 [vI (t_'.Kind), vT (t_'.Name), vI (t_'.From), vI (t_'.To), sl Ap15 (t_'.Kids) cp15] 42)] [(101, slF RDeriv (Ap05) ((t_.Kids).length) (cp05) (t_.Kids)), (102, slF RDeriv (Ap15) ((t_'.Kids).length) (cp15) (t_'.Kids))] a w) ?_ ?_
 ·apply wp_block
  refine c_loop (σ := Nat) (fun m1 a w => ∃ (t_26 : Nat), r28_Compare_L0 n t_ t_' (r28_Compare n) k25 m1 t_26 = some r ∧ St (⟨Tryz.f33.ntmps, M, noB, w0⟩ : Ctx) [(2, vP b3 0), (3, vP b4 0), (5, vI (((t_26 : Nat) : Int)))] [(1000, Ob.box b3 [vI (t_.Kind), vT (t_.Name), vI (t_.From), vI (t_.To), sl Ap05 (t_.Kids) cp05] 42), (1001, Ob.box b4 [vI (t_'.Kind), vT (t_'.Name), vI (t_'.From), vI (t_'.To), sl Ap15 (t_'.Kids) cp15] 42)] [(101, slF RDeriv (Ap05) ((t_.Kids).length) (cp05) (t_.Kids)), (102, slF RDeriv (Ap15) ((t_'.Kids).length) (cp15) (t_'.Kids))] a w) (fun m1 => m1) n ⟨(0), hg, (s.sb rfl rfl rfl)⟩ ?_
  clear s a; rintro m1 a w ⟨t_26, hg, s⟩
  rcases m1 with _ | m1
  ·rw [r28_Compare_L0] at hg; cases hg
  rw [r28_Compare_L0] at hg
  apply wQ
  apply wQ
  obtain ⟨k27, hg, hk27⟩ := jn_some hg
  refine c_post (fun a w => ∃ (t_28 : Bool), k27 t_28 = some r ∧ St (⟨Tryz.f33.ntmps, M, noB, w0⟩ : Ctx) [(2, vP b3 0), (3, vP b4 0), (5, vI (((t_26 : Nat) : Int))), (58, .bool (t_28))] [(1000, Ob.box b3 [vI (t_.Kind), vT (t_.Name), vI (t_.From), vI (t_.To), sl Ap05 (t_.Kids) cp05] 42), (1001, Ob.box b4 [vI (t_'.Kind), vT (t_'.Name), vI (t_'.From), vI (t_'.To), sl Ap15 (t_'.Kids) cp15] 42)] [(101, slF RDeriv (Ap05) ((t_.Kids).length) (cp05) (t_.Kids)), (102, slF RDeriv (Ap15) ((t_'.Kids).length) (cp15) (t_'.Kids))] a w) ?_ ?_
  ·rcases Decidable.em (t_26 < ((t_.Kids).length)) with hs29 | hs29
   ·have hs29e := decide_eq_true hs29
    replace hg := br_t hg hs29
    have hmx30 := SlR.mx (s.ft 101 rfl)
    apply wL
    refine mv s rfl rfl fun a s => ?_
    refine qq s rfl (y_boxField (o' := 4) s rfl underlying42 rfl rfl rfl) fun a s => ?_
    refine qq s rfl (y_loadBox1 (kk := 1000) s rfl rfl rfl underlying35 rfl) fun a s => ?_
    refine qq s rfl (y_lenSlice s rfl underlying35) fun a s => ?_
    refine qq s rfl (yl_b (y_lssN (i := t_26) (j := ((t_.Kids).length)) s rfl rfl) hs29e) fun a s => ?_
    refine mv s rfl rfl fun a s => ?_
    refine gm s rfl rfl fun a s => ?_
    refine gy s rfl (y_boxField (o' := 4) s rfl underlying42 rfl rfl rfl) fun a s => ?_
    refine gy s rfl (y_loadBox1 (kk := 1001) s rfl rfl rfl underlying35 rfl) fun a s => ?_
    refine gy s rfl (y_lenSlice s rfl underlying35) fun a s => ?_
    refine gy s rfl (y_lssN (i := t_26) (j := ((t_'.Kids).length)) s rfl rfl) fun a s => ?_
    refine qq s rfl (y_pick_t s rfl rfl) fun a s => ?_
    apply wN
    exact ⟨(decide (t_26 < ((t_'.Kids).length))), hg, (s.sb rfl rfl rfl)⟩
   have hs29e := decide_eq_false hs29
   replace hg := br_f hg hs29
   apply wL
   refine mv s rfl rfl fun a s => ?_
   refine qq s rfl (y_boxField (o' := 4) s rfl underlying42 rfl rfl rfl) fun a s => ?_
   refine qq s rfl (y_loadBox1 (kk := 1000) s rfl rfl rfl underlying35 rfl) fun a s => ?_
   refine qq s rfl (y_lenSlice s rfl underlying35) fun a s => ?_
   refine qq s rfl (yl_b (y_lssN (i := t_26) (j := ((t_.Kids).length)) s rfl rfl) hs29e) fun a s => ?_
   refine mv s rfl rfl fun a s => ?_
   refine gn s rfl fun a s => ?_
   refine gn s rfl fun a s => ?_
   refine gn s rfl fun a s => ?_
   refine gn s rfl fun a s => ?_
   refine gn s rfl fun a s => ?_
   refine qq s rfl (y_pick_f s rfl rfl) fun a s => ?_
   apply wN
   exact ⟨(false), hg, (s.sb rfl rfl rfl)⟩
  clear s a; rintro a w ⟨t_28, hg, s⟩
  subst hk27
  refine c_cond s rfl (fun hc31 => ?_) (fun hc31 => ?_)
  ·replace hg := br_t hg hc31
   apply wp_skip
   apply pN
   apply wQ
   apply wp_block
   apply wQ
   obtain ⟨x33, hx33, hg⟩ := bind_some hg
   obtain ⟨x36, hx36, hg⟩ := bind_some hg
   obtain ⟨r38, hr38, hg⟩ := bind_some hg
   refine d_plan s [] [(0, some 0), (1, some 1000), (2, some 0), (3, some 0), (4, some 0), (5, some 0), (6, some 1001), (7, some 0), (8, some 0), (9, some 0), (10, none), (11, none)] rfl (by kernel_rfl) (by kernel_rfl) rfl ?_; clear s; intro wr hZ s; have hR := s.wd
   refine qt s hR rfl (y_boxField (o' := 4) s rfl underlying42 rfl rfl rfl) fun a s => ?_
   refine qt s hR rfl (y_loadBox1 (kk := 1000) s rfl rfl rfl underlying35 rfl) fun a s => ?_
   refine qt s hR rfl (y_move s rfl) fun a s => ?_
   obtain ⟨p41, hep41, hpp41⟩ := SlR.elemX (s.ft 101 rfl) hx33
   refine qt s hR rfl (y_elem (sz := 5) (i := t_26) s rfl rfl underlying35 rfl hep41 rfl (lt_of_get hx33)) fun a s => ?_
   obtain ⟨hlq42, hmq42, csq42, hdq42, hcq42⟩ := hpp41
   obtain ⟨Aq425, cq425, rfl, lq422, hq425⟩ := RDeriv.open hdq42
   replace s := s.ns 105 hq425
   refine qt s hR rfl (y_ldp s rfl hlq42 hmq42 (by simpa using hcq42) underlying42 rfl rfl) fun a s => ?_
   refine qt s hR rfl (y_boxField (o' := 4) s rfl underlying42 rfl rfl rfl) fun a s => ?_
   refine qt s hR rfl (y_loadBox1 (kk := 1001) s rfl rfl rfl underlying35 rfl) fun a s => ?_
   refine qt s hR rfl (y_move s rfl) fun a s => ?_
   obtain ⟨p43, hep43, hpp43⟩ := SlR.elemX (s.ft 102 rfl) hx36
   refine qt s hR rfl (y_elem (sz := 5) (i := t_26) s rfl rfl underlying35 rfl hep43 rfl (lt_of_get hx36)) fun a s => ?_
   obtain ⟨hlq44, hmq44, csq44, hdq44, hcq44⟩ := hpp43
   obtain ⟨Aq445, cq445, rfl, lq442, hq445⟩ := RDeriv.open hdq44
   replace s := s.ns 106 hq445
   refine qt s hR rfl (y_ldp s rfl hlq44 hmq44 (by simpa using hcq44) underlying42 rfl rfl) fun a s => ?_
   refine l_take s rfl rfl (l_call (cap := []) s rfl func33 rfl (by kernel_rfl) rfl rfl (c_self _ _ s.lt x33 (Aq425) (cq425) (by omega) (s.ft 105 rfl) x36 (Aq445) (cq445) (by omega) (s.ft 106 rfl) r38 hr38) fun v45 a w hK hp s => ?_)
   replace hZ := Nat.le_trans hZ hK.size; refine ⟨fun g _ h => h.grow hK, ?_⟩; clear hK
   obtain rfl := hp
   refine l_take s rfl rfl (l_quiet s rfl rfl (y_assign s rfl) fun a s => ?_); refine ⟨fun g _ h => h, ?_⟩
   clear hR hZ
   apply pN
   apply wR
   refine mv s rfl rfl fun a s => ?_
   refine qq s rfl (y_neq s rfl rfl) fun a s => ?_
   apply wN
   refine c_dec s rfl (fun hc47 => ?_) (fun hc47 => ?_)
   ·replace hg := br_t hg hc47
    apply wR
    refine mv s rfl rfl fun a s => ?_
    refine asg s rfl rfl fun a s => ?_
    apply wN
    apply wp_ret
    refine p_inR ?_
    refine p_thenR ?_
    refine p_thenR ?_
    refine p_inR ?_
    refine p_thenR ?_
    obtain rfl := Option.some.inj hg
    refine fin1 (fn := Tryz.f33) s rfl (r_tmp s rfl) ?_
    exact rfl
   replace hg := br_f hg hc47
   apply wp_skip
   refine p_inN ?_
   apply pN
   obtain ⟨hk48, hg⟩ := chk_some hg
   apply wL
   refine mv s rfl rfl fun a s => ?_
   refine qq s rfl (y_addN (i := t_26) (j := 1) s rfl rfl (in64.2 (by omega))) fun a s => ?_
   refine asg s rfl rfl fun a s => ?_
   apply wN
   exact ⟨m1, Nat.lt_succ_self _, ⟨(t_26 + 1), hg, (s.sb rfl rfl rfl)⟩⟩
  replace hg := br_n hg hc31
  apply wp_exit
  refine p_then ?_
  refine p_then ?_
  refine p_in ?_
  apply pN
  exact ⟨hg, (s.sb rfl rfl rfl)⟩
 clear s a; rintro a w ⟨hg, s⟩
 subst hk25
 apply wQ
 obtain ⟨r49, hr49, hg⟩ := bind_some hg
 apply wL
 refine qq s rfl (y_boxField (o' := 4) s rfl underlying42 rfl rfl rfl) fun a s => ?_
 refine qq s rfl (y_loadBox1 (kk := 1000) s rfl rfl rfl underlying35 rfl) fun a s => ?_
 refine qq s rfl (y_lenSlice s rfl underlying35) fun a s => ?_
 refine qq s rfl (y_boxField (o' := 4) s rfl underlying42 rfl rfl rfl) fun a s => ?_
 refine qq s rfl (y_loadBox1 (kk := 1001) s rfl rfl rfl underlying35 rfl) fun a s => ?_
 refine qq s rfl (y_lenSlice s rfl underlying35) fun a s => ?_
 refine l_seq rfl (l_call (cap := []) s rfl func55 rfl (by kernel_rfl) rfl rfl (c_r28_ints n _ _ s.lt (((t_.Kids).length : Nat) : Int) (((t_'.Kids).length : Nat) : Int) r49 hr49) fun v52 a w hK hp s => ?_)
 obtain rfl := hp
 refine asg s rfl rfl fun a s => ?_
 apply wN
 apply wp_ret
 obtain rfl := Option.some.inj hg
 refine fin1 (fn := Tryz.f33) s rfl (r_tmp s rfl) ?_
 exact rfl
set_option maxHeartbeats 400000 in
theorem c_r37_Features (n : Nat) : ∀ (M : Bs) (w0 : World) (hM : ∀ b, M b → b < w0.heap.size) (t_ : Deriv) (Ap05 : Option Addr) (cp05 : Nat) (lp02 : (t_.Name).length ≤ 9223372036854775807) (hp05 : SlR RDeriv M w0 Ap05 (t_.Kids).length cp05 (t_.Kids)) (r : (List (List UInt8))) (hg : r37_Features n t_ = some r),
    Calls Tryz.prog 34 [.agg #[.int .i64 (t_.Kind), .string (bs (t_.Name)), .int .i64 (t_.From), .int .i64 (t_.To), .slice (Ap05) ((t_.Kids).length) (cp05)]].toArray w0 (Ret noB w0 fun v w => ∃ (Aa1 : Option Addr), ∃ (ca1 : Nat), v = .slice (Aa1) ((r).length) (ca1) ∧ (SlR Rep.str M w Aa1 (r).length ca1 (r))) := by
 induction n with
 | zero => intros; rename_i hg; rw [r37_Features] at hg; cases hg
 | succ n c_self =>
 intro M w0 hM t_ Ap05 cp05 lp02 hp05 r hg
 rw [r37_Features] at hg
 refine enter M noB func34 rfl rfl hM ?_
 intro a s
 replace s := s.es 101 hp05
 apply wR
 refine l_seq rfl (l_box (zs := [vI (t_.Kind), vT (t_.Name), vI (t_.From), vI (t_.To), sl Ap05 (t_.Kids) cp05]) s 1000 rfl rfl rfl rfl fun b2 a w hb hK s => ?_)
 refine asg s rfl rfl fun a s => ?_
 apply wN
 apply wR
 refine qq s rfl (y_boxField (o' := 1) s rfl underlying42 rfl rfl rfl) fun a s => ?_
 refine qq s rfl (y_loadBox1 (kk := 1000) s rfl rfl rfl underlying9 rfl) fun a s => ?_
 refine l_seq rfl (l_buildDense (sz := 1) s 1102 rfl rfl rfl underlying44 rfl rfl rfl rfl rfl rfl rfl fun b4 a w hbb4 hK s => ?_)
 clear hbb4
 refine asg s rfl rfl fun a s => ?_
 apply wN
 apply wQ
 apply wR
 refine qq s rfl (y_boxField (o' := 4) s rfl underlying42 rfl rfl rfl) fun a s => ?_
 refine qq s rfl (y_loadBox1 (kk := 1000) s rfl rfl rfl underlying35 rfl) fun a s => ?_
 refine qq s rfl (y_lenSlice s rfl underlying35) fun a s => ?_
 refine qq s rfl (y_gtrN (i := ((t_.Kids).length)) (j := 0) s rfl rfl) fun a s => ?_
 apply wN
 obtain ⟨k5, hg, hk5⟩ := jn_some hg
 refine c_post (fun a w => ∃ (t_6 : (List (List UInt8))) (A7 : Option Addr) (c8 : Nat) (cs9 : List Value), k5 t_6 = some r ∧ St (⟨Tryz.f34.ntmps, M, noB, w0⟩ : Ctx) [(1, vP b2 0), (3, sl A7 (t_6) c8)] [(1000, Ob.box b2 [vI (t_.Kind), vT (t_.Name), vI (t_.From), vI (t_.To), sl Ap05 (t_.Kids) cp05] 42), (700102, Ob.row (A7) ((t_6).length) (c8) 9 1 (cs9))] [(101, slF RDeriv (Ap05) ((t_.Kids).length) (cp05) (t_.Kids)), (103, rdF Rep.str (cs9) (t_6))] a w) ?_ ?_
 ·refine c_dec s rfl (fun hc10 => ?_) (fun hc10 => ?_)
  ·replace hg := br_t hg hc10
   have hmx11 := SlR.mx (s.ft 101 rfl)
   apply wQ
   obtain ⟨hk12, hg⟩ := chk_some hg
   apply wL
   refine qq s rfl (y_boxField (o' := 1) s rfl underlying42 rfl rfl rfl) fun a s => ?_
   refine qq s rfl (y_loadBox1 (kk := 1000) s rfl rfl rfl underlying9 rfl) fun a s => ?_
   refine qq s rfl (y_concat s rfl rfl hk12) fun a s => ?_
   refine asg s rfl rfl fun a s => ?_
   apply wN
   apply wQ
   apply wR
   refine asg s rfl rfl fun a s => ?_
   apply wN
   obtain ⟨k13, hg, hk13⟩ := jn_some hg
   refine c_post (fun a w => ∃ (t_14 : (List UInt8)), k13 t_14 = some r ∧ ((t_14).length ≤ 9223372036854775807) ∧ St (⟨Tryz.f34.ntmps, M, noB, w0⟩ : Ctx) [(1, vP b2 0), (3, .slice (some ⟨b4, 0, none⟩) (1) (1)), (4, vT t_14)] [(1000, Ob.box b2 [vI (t_.Kind), vT (t_.Name), vI (t_.From), vI (t_.To), sl Ap05 (t_.Kids) cp05] 42), (1102, Ob.row (some ⟨b4, 0, none⟩) (1) (1) 9 1 (cellsOfL [vT (t_.Name)]))] [(101, slF RDeriv (Ap05) ((t_.Kids).length) (cp05) (t_.Kids))] a w) ?_ ?_
   ·apply wp_block
    refine c_loop (σ := Nat) (fun m1 a w => ∃ (t_15 : (List UInt8)) (t_16 : Nat), r37_Features_L0 n t_ k13 m1 t_15 t_16 = some r ∧ ((t_15).length ≤ 9223372036854775807) ∧ St (⟨Tryz.f34.ntmps, M, noB, w0⟩ : Ctx) [(1, vP b2 0), (3, .slice (some ⟨b4, 0, none⟩) (1) (1)), (4, vT t_15), (5, vI (((t_16 : Nat) : Int)))] [(1000, Ob.box b2 [vI (t_.Kind), vT (t_.Name), vI (t_.From), vI (t_.To), sl Ap05 (t_.Kids) cp05] 42), (1102, Ob.row (some ⟨b4, 0, none⟩) (1) (1) 9 1 (cellsOfL [vT (t_.Name)]))] [(101, slF RDeriv (Ap05) ((t_.Kids).length) (cp05) (t_.Kids))] a w) (fun m1 => m1) n ⟨(t_.Name ++ [62]), (0), hg, (by first | omega | (rw [List.length_append]; omega) | (simp only [List.length_append]; omega) | (simp only [List.length_append, List.length_take, List.length_drop, List.length_cons, List.length_nil]; omega) | exact smin_len (by omega) (by omega)), (s.sb rfl rfl rfl)⟩ ?_
    clear s a; rintro m1 a w ⟨t_15, t_16, hg, lt_15, s⟩
    rcases m1 with _ | m1
    ·rw [r37_Features_L0] at hg; cases hg
    rw [r37_Features_L0] at hg
    apply wQ
    apply wR
    refine mv s rfl rfl fun a s => ?_
    refine qq s rfl (y_boxField (o' := 4) s rfl underlying42 rfl rfl rfl) fun a s => ?_
    refine qq s rfl (y_loadBox1 (kk := 1000) s rfl rfl rfl underlying35 rfl) fun a s => ?_
    refine qq s rfl (y_lenSlice s rfl underlying35) fun a s => ?_
    refine qq s rfl (y_lssN (i := t_16) (j := ((t_.Kids).length)) s rfl rfl) fun a s => ?_
    apply wN
    refine c_dec s rfl (fun hc17 => ?_) (fun hc17 => ?_)
    ·replace hg := br_t hg hc17
     have hmx18 := SlR.mx (s.ft 101 rfl)
     apply wp_skip
     apply pN
     apply wQ
     apply wp_block
     apply wQ
     apply wR
     refine mv s rfl rfl fun a s => ?_
     refine qq s rfl (y_gtrN (i := t_16) (j := 0) s rfl rfl) fun a s => ?_
     apply wN
     obtain ⟨k19, hg, hk19⟩ := jn_some hg
     refine c_post (fun a w => ∃ (t_20 : (List UInt8)), k19 t_20 = some r ∧ ((t_20).length ≤ 9223372036854775807) ∧ St (⟨Tryz.f34.ntmps, M, noB, w0⟩ : Ctx) [(1, vP b2 0), (3, .slice (some ⟨b4, 0, none⟩) (1) (1)), (4, vT t_20), (5, vI (((t_16 : Nat) : Int)))] [(1000, Ob.box b2 [vI (t_.Kind), vT (t_.Name), vI (t_.From), vI (t_.To), sl Ap05 (t_.Kids) cp05] 42), (1102, Ob.row (some ⟨b4, 0, none⟩) (1) (1) 9 1 (cellsOfL [vT (t_.Name)]))] [(101, slF RDeriv (Ap05) ((t_.Kids).length) (cp05) (t_.Kids))] a w) ?_ ?_
     ·refine c_dec s rfl (fun hc21 => ?_) (fun hc21 => ?_)
      ·replace hg := br_t hg hc21
       obtain ⟨hk22, hg⟩ := chk_some hg
       apply wL
       refine mv s rfl rfl fun a s => ?_
       refine qq s rfl (y_concat s rfl rfl hk22) fun a s => ?_
       refine asg s rfl rfl fun a s => ?_
       apply wN
       exact ⟨(t_15 ++ [32]), hg, (by first | omega | (rw [List.length_append]; omega) | (simp only [List.length_append]; omega) | (simp only [List.length_append, List.length_take, List.length_drop, List.length_cons, List.length_nil]; omega) | exact smin_len (by omega) (by omega)), (s.sb rfl rfl rfl)⟩
      replace hg := br_f hg hc21
      apply wp_skip
      apply pN
      exact ⟨(t_15), hg, (by omega), (s.sb rfl rfl rfl)⟩
     clear s a; rintro a w ⟨t_20, hg, lt_20, s⟩
     subst hk19
     obtain ⟨x24, hx24, hg⟩ := bind_some hg
     obtain ⟨hk26, hg⟩ := chk_some hg
     apply wL
     refine mv s rfl rfl fun a s => ?_
     refine qq s rfl (y_boxField (o' := 4) s rfl underlying42 rfl rfl rfl) fun a s => ?_
     refine qq s rfl (y_loadBox1 (kk := 1000) s rfl rfl rfl underlying35 rfl) fun a s => ?_
     refine mv s rfl rfl fun a s => ?_
     obtain ⟨p27, hep27, hpp27⟩ := SlR.elemX (s.ft 101 rfl) hx24
     refine qq s rfl (y_elem (sz := 5) (i := t_16) s rfl rfl underlying35 rfl hep27 rfl (lt_of_get hx24)) fun a s => ?_
     refine qq s rfl (y_ptrField (o' := 1) s rfl underlying42 rfl rfl rfl) fun a s => ?_
     obtain ⟨hlq28, hmq28, csq28, hdq28, hcq28⟩ := hpp27
     obtain ⟨Aq285, cq285, rfl, lq282, hq285⟩ := RDeriv.open hdq28
     replace s := s.ns 105 hq285
     refine qq s rfl (y_ldp1 s rfl hlq28 hmq28 (hcq28 1 _ rfl) underlying9 rfl) fun a s => ?_
     refine qq s rfl (y_concat s rfl rfl hk26) fun a s => ?_
     refine asg s rfl rfl fun a s => ?_
     apply wO
     refine p_inN ?_
     apply pN
     apply wL
     refine mv s rfl rfl fun a s => ?_
     refine qq s rfl (y_addN (i := t_16) (j := 1) s rfl rfl (in64.2 (by omega))) fun a s => ?_
     refine asg s rfl rfl fun a s => ?_
     apply wN
     exact ⟨m1, Nat.lt_succ_self _, ⟨(t_20 ++ x24.Name), (t_16 + 1), hg, (by first | omega | (rw [List.length_append]; omega) | (simp only [List.length_append]; omega) | (simp only [List.length_append, List.length_take, List.length_drop, List.length_cons, List.length_nil]; omega) | exact smin_len (by omega) (by omega)), (s.sb rfl rfl rfl)⟩⟩
    replace hg := br_f hg hc17
    apply wp_exit
    refine p_then ?_
    refine p_then ?_
    refine p_in ?_
    apply pN
    exact ⟨(t_15), hg, (by omega), (s.sb rfl rfl rfl)⟩
   clear s a; rintro a w ⟨t_14, hg, lt_14, s⟩
   subst hk13
   obtain ⟨hk30, hg⟩ := chk_some hg
   apply wL
   refine mv s rfl rfl fun a s => ?_
   refine mv s rfl rfl fun a s => ?_
   refine l_seq rfl (l_buildDense (sz := 1) s 2002 rfl rfl rfl underlying44 rfl rfl rfl rfl rfl rfl rfl fun b33 a w hbb33 hK s => ?_)
   clear hbb33
   replace s := s.add 109 (rdF Rep.str (cellsOfL [vT (t_.Name)]) ([t_.Name])) (RdAll.cons (by exact ⟨rfl, (by omega)⟩) (RdAll.nil _ _ _))
   replace s := s.add 110 (rdF Rep.str (cellsOfL [vT t_14]) ([t_14])) (RdAll.cons (by exact ⟨rfl, (by omega)⟩) (RdAll.nil _ _ _))
   have hs35 := row_src (s.wd.holds 2002 _ rfl) (RdAll.one (s.ft 110 rfl))
   refine l_seq rfl (l_append (sz := 1) (by_ := 16) (N := ([t_.Name] ++ [t_14]).length) (ys := (cellsOfL [vT (t_.Name)]) ++ (cellsOfL [vT t_14])) s 1102 rfl rfl rfl underlying44 rfl rfl rfl rfl rfl hs35 (by first | (simp; done) | (simp; omega)) rfl (by have hr := hk30; clear hg; first | omega | (simp only [List.length_append, List.length_cons, List.length_nil] at hr ⊢; omega) | (simp at hr ⊢; omega)) (by have hr := hk30; clear hg; first | omega | (simp only [List.length_append, List.length_cons, List.length_nil] at hr ⊢; omega) | (simp at hr ⊢; omega)) rfl fun Aq34 cq34 a w hA hK s => ?_)
   replace s := s.add 111 (rdF Rep.str ((cellsOfL [vT (t_.Name)]) ++ (cellsOfL [vT t_14])) ([t_.Name] ++ [t_14])) (RdAll.append (s.ft 109 rfl) (s.ft 110 rfl))
   refine asg s rfl rfl fun a s => ?_
   apply wN
   replace s := s.add 103 (rdF Rep.str ((cellsOfL [vT (t_.Name)]) ++ (cellsOfL [vT t_14])) ([t_.Name] ++ [t_14])) (s.ft 111 rfl)
   replace s := s.pk [(1000, 1000), (2002, 2002), (700102, 1102)] (by decide)
   exact ⟨([t_.Name] ++ [t_14]), (Aq34), (cq34), ((cellsOfL [vT (t_.Name)]) ++ (cellsOfL [vT t_14])), hg, (s.sb rfl rfl rfl)⟩
  replace hg := br_f hg hc10
  apply wp_skip
  apply pN
  replace s := s.add 112 (rdF Rep.str (cellsOfL [vT (t_.Name)]) ([t_.Name])) (RdAll.cons (by exact ⟨rfl, (by omega)⟩) (RdAll.nil _ _ _))
  replace s := s.al 103 112 rfl
  replace s := s.pk [(1000, 1000), (700102, 1102)] (by decide)
  exact ⟨([t_.Name]), (some ⟨b4, 0, none⟩), (1), (cellsOfL [vT (t_.Name)]), hg, (s.sb rfl rfl rfl)⟩
 clear s a; rintro a w ⟨t_6, A7, c8, cs9, hg, s⟩
 subst hk5
 apply wQ
 apply wR
 refine asg s rfl rfl fun a s => ?_
 apply wN
 apply wp_block
 replace s := s.al 114 103 rfl
 replace s := s.pk [(1000, 1000), (700113, 700102)] (by decide)
 refine c_loop (σ := Nat) (fun m2 a w => ∃ (t_36 : (List (List UInt8))) (t_40 : Nat) (A37 : Option Addr) (c38 : Nat) (cs39 : List Value), r37_Features_L1 n t_ (r37_Features n) m2 t_36 t_40 = some r ∧ St (⟨Tryz.f34.ntmps, M, noB, w0⟩ : Ctx) [(1, vP b2 0), (3, sl A37 (t_36) c38), (6, vI (((t_40 : Nat) : Int)))] [(1000, Ob.box b2 [vI (t_.Kind), vT (t_.Name), vI (t_.From), vI (t_.To), sl Ap05 (t_.Kids) cp05] 42), (700113, Ob.row (A37) ((t_36).length) (c38) 9 1 (cs39))] [(101, slF RDeriv (Ap05) ((t_.Kids).length) (cp05) (t_.Kids)), (114, rdF Rep.str (cs39) (t_36))] a w) (fun m2 => m2) n ⟨(t_6), (0), (A7), (c8), (cs9), hg, (s.sb rfl rfl rfl)⟩ ?_
 clear s a; rintro m2 a w ⟨t_36, t_40, A37, c38, cs39, hg, s⟩
 rcases m2 with _ | m2
 ·rw [r37_Features_L1] at hg; cases hg
 rw [r37_Features_L1] at hg
 apply wQ
 apply wR
 refine mv s rfl rfl fun a s => ?_
 refine qq s rfl (y_boxField (o' := 4) s rfl underlying42 rfl rfl rfl) fun a s => ?_
 refine qq s rfl (y_loadBox1 (kk := 1000) s rfl rfl rfl underlying35 rfl) fun a s => ?_
 refine qq s rfl (y_lenSlice s rfl underlying35) fun a s => ?_
 refine qq s rfl (y_lssN (i := t_40) (j := ((t_.Kids).length)) s rfl rfl) fun a s => ?_
 apply wN
 refine c_dec s rfl (fun hc41 => ?_) (fun hc41 => ?_)
 ·replace hg := br_t hg hc41
  have hmx42 := SlR.mx (s.ft 101 rfl)
  apply wp_skip
  apply pN
  apply wQ
  obtain ⟨k43, hg, hk43⟩ := jn_some hg
  refine c_post (fun a w => ∃ (t_44 : (List (List UInt8))) (A45 : Option Addr) (c46 : Nat) (cs47 : List Value), k43 t_44 = some r ∧ St (⟨Tryz.f34.ntmps, M, noB, w0⟩ : Ctx) [(1, vP b2 0), (3, sl A45 (t_44) c46), (6, vI (((t_40 : Nat) : Int)))] [(1000, Ob.box b2 [vI (t_.Kind), vT (t_.Name), vI (t_.From), vI (t_.To), sl Ap05 (t_.Kids) cp05] 42), (700115, Ob.row (A45) ((t_44).length) (c46) 9 1 (cs47))] [(101, slF RDeriv (Ap05) ((t_.Kids).length) (cp05) (t_.Kids)), (116, rdF Rep.str (cs47) (t_44))] a w) ?_ ?_
  ·apply wp_block
   apply wQ
   obtain ⟨x49, hx49, hg⟩ := bind_some hg
   obtain ⟨r51, hr51, hg⟩ := bind_some hg
   apply wL
   refine qq s rfl (y_boxField (o' := 4) s rfl underlying42 rfl rfl rfl) fun a s => ?_
   refine qq s rfl (y_loadBox1 (kk := 1000) s rfl rfl rfl underlying35 rfl) fun a s => ?_
   refine mv s rfl rfl fun a s => ?_
   obtain ⟨p54, hep54, hpp54⟩ := SlR.elemX (s.ft 101 rfl) hx49
   refine qq s rfl (y_elem (sz := 5) (i := t_40) s rfl rfl underlying35 rfl hep54 rfl (lt_of_get hx49)) fun a s => ?_
   obtain ⟨hlq55, hmq55, csq55, hdq55, hcq55⟩ := hpp54
   obtain ⟨Aq555, cq555, rfl, lq552, hq555⟩ := RDeriv.open hdq55
   replace s := s.ns 119 hq555
   refine qq s rfl (y_ldp s rfl hlq55 hmq55 (by simpa using hcq55) underlying42 rfl rfl) fun a s => ?_
   refine l_seq rfl (l_call (cap := []) s rfl func34 rfl (by kernel_rfl) rfl rfl (c_self _ _ s.lt x49 (Aq555) (cq555) (by omega) (s.ft 119 rfl) r51 hr51) fun v56 a w hK hp s => ?_)
   obtain ⟨Au57a1, cu57a1, rfl, hu57a1⟩ := hp
   replace s := s.ns 120 hu57a1
   refine asg s rfl rfl fun a s => ?_
   apply wN
   apply wR
   refine asg s rfl rfl fun a s => ?_
   apply wN
   apply wp_block
   replace s := s.al 122 114 rfl
   replace s := s.pk [(1000, 1000), (700121, 700113)] (by decide)
   refine c_loop (σ := Nat) (fun m3 a w => ∃ (t_58 : (List (List UInt8))) (t_62 : Nat) (A59 : Option Addr) (c60 : Nat) (cs61 : List Value), r37_Features_L2 n k43 r51 m3 t_58 t_62 = some r ∧ St (⟨Tryz.f34.ntmps, M, noB, w0⟩ : Ctx) [(1, vP b2 0), (3, sl A59 (t_58) c60), (6, vI (((t_40 : Nat) : Int))), (7, sl Au57a1 (r51) cu57a1), (8, vI (((t_62 : Nat) : Int)))] [(1000, Ob.box b2 [vI (t_.Kind), vT (t_.Name), vI (t_.From), vI (t_.To), sl Ap05 (t_.Kids) cp05] 42), (700121, Ob.row (A59) ((t_58).length) (c60) 9 1 (cs61))] [(101, slF RDeriv (Ap05) ((t_.Kids).length) (cp05) (t_.Kids)), (120, slF Rep.str (Au57a1) ((r51).length) (cu57a1) (r51)), (122, rdF Rep.str (cs61) (t_58))] a w) (fun m3 => m3) n ⟨(t_36), (0), (A37), (c38), (cs39), hg, (s.sb rfl rfl rfl)⟩ ?_
   clear s a; rintro m3 a w ⟨t_58, t_62, A59, c60, cs61, hg, s⟩
   rcases m3 with _ | m3
   ·rw [r37_Features_L2] at hg; cases hg
   rw [r37_Features_L2] at hg
   apply wQ
   apply wR
   refine mv s rfl rfl fun a s => ?_
   refine mv s rfl rfl fun a s => ?_
   refine qq s rfl (y_lenSlice s rfl underlying44) fun a s => ?_
   refine qq s rfl (y_lssN (i := t_62) (j := ((r51).length)) s rfl rfl) fun a s => ?_
   apply wN
   refine c_dec s rfl (fun hc63 => ?_) (fun hc63 => ?_)
   ·replace hg := br_t hg hc63
    have hmx64 := SlR.mx (s.ft 120 rfl)
    apply wp_skip
    apply pN
    apply wQ
    apply wp_block
    obtain ⟨x66, hx66, hg⟩ := bind_some hg
    obtain ⟨hk69, hg⟩ := chk_some hg
    apply wL
    refine mv s rfl rfl fun a s => ?_
    refine mv s rfl rfl fun a s => ?_
    refine mv s rfl rfl fun a s => ?_
    obtain ⟨p72, hep72, hpp72⟩ := SlR.elemX (s.ft 120 rfl) hx66
    refine qq s rfl (y_elem (sz := 1) (i := t_62) s rfl rfl underlying44 rfl hep72 rfl (lt_of_get hx66)) fun a s => ?_
    obtain ⟨hlq73, hmq73, csq73, hdq73, hcq73⟩ := hpp72
    obtain ⟨rfl, lq731⟩ := hdq73
    refine qq s rfl (y_ldp1 s rfl hlq73 hmq73 (hcq73 0 _ rfl) underlying9 rfl) fun a s => ?_
    refine l_seq rfl (l_buildDense (sz := 1) s 2805 rfl rfl rfl underlying44 rfl rfl rfl rfl rfl rfl rfl fun b74 a w hbb74 hK s => ?_)
    clear hbb74
    replace s := s.add 125 (rdF Rep.str (cellsOfL [vT x66]) ([x66])) (RdAll.cons (by exact ⟨rfl, (by omega)⟩) (RdAll.nil _ _ _))
    have hs76 := row_src (s.wd.holds 2805 _ rfl) (RdAll.one (s.ft 125 rfl))
    refine l_seq rfl (l_append (sz := 1) (by_ := 16) (N := (t_58 ++ [x66]).length) (ys := cs61 ++ (cellsOfL [vT x66])) s 700121 rfl rfl rfl underlying44 rfl rfl rfl rfl rfl hs76 (by first | (simp; done) | (simp; omega)) rfl (by have hr := hk69; clear hg; first | omega | (simp only [List.length_append, List.length_cons, List.length_nil] at hr ⊢; omega) | (simp at hr ⊢; omega)) (by have hr := hk69; clear hg; first | omega | (simp only [List.length_append, List.length_cons, List.length_nil] at hr ⊢; omega) | (simp at hr ⊢; omega)) rfl fun Aq75 cq75 a w hA hK s => ?_)
    replace s := s.add 126 (rdF Rep.str (cs61 ++ (cellsOfL [vT x66])) (t_58 ++ [x66])) (RdAll.append (s.ft 122 rfl) (s.ft 125 rfl))
    refine asg s rfl rfl fun a s => ?_
    apply wO
    refine p_inN ?_
    apply pN
    apply wL
    refine mv s rfl rfl fun a s => ?_
    refine qq s rfl (y_addN (i := t_62) (j := 1) s rfl rfl (in64.2 (by omega))) fun a s => ?_
    refine asg s rfl rfl fun a s => ?_
    apply wN
    replace s := s.add 122 (rdF Rep.str (cs61 ++ (cellsOfL [vT x66])) (t_58 ++ [x66])) (s.ft 126 rfl)
    exact ⟨m3, Nat.lt_succ_self _, ⟨(t_58 ++ [x66]), (t_62 + 1), (Aq75), (cq75), (cs61 ++ (cellsOfL [vT x66])), hg, (s.sb rfl rfl rfl)⟩⟩
   replace hg := br_f hg hc63
   apply wp_exit
   refine p_then ?_
   refine p_then ?_
   refine p_in ?_
   refine p_inN ?_
   apply pN
   replace s := s.al 116 122 rfl
   replace s := s.pk [(1000, 1000), (700115, 700121)] (by decide)
   exact ⟨(t_58), (A59), (c60), (cs61), hg, (s.sb rfl rfl rfl)⟩
  clear s a; rintro a w ⟨t_44, A45, c46, cs47, hg, s⟩
  subst hk43
  apply wL
  refine mv s rfl rfl fun a s => ?_
  refine qq s rfl (y_addN (i := t_40) (j := 1) s rfl rfl (in64.2 (by omega))) fun a s => ?_
  refine asg s rfl rfl fun a s => ?_
  apply wN
  replace s := s.al 114 116 rfl
  replace s := s.pk [(1000, 1000), (700113, 700115)] (by decide)
  exact ⟨m2, Nat.lt_succ_self _, ⟨(t_44), (t_40 + 1), (A45), (c46), (cs47), hg, (s.sb rfl rfl rfl)⟩⟩
 replace hg := br_f hg hc41
 apply wp_exit
 refine p_then ?_
 refine p_then ?_
 refine p_in ?_
 apply pN
 apply wR
 refine mv s rfl rfl fun a s => ?_
 refine asg s rfl rfl fun a s => ?_
 apply wN
 apply wp_ret
 obtain rfl := Option.some.inj hg
 refine fin1 (fn := Tryz.f34) s rfl (r_tmp s rfl) ?_
 exact ⟨(A37), (c38), rfl, (s.rowOut (R := Rep.str) (kk := 700113) rfl rfl (s.ft 114 rfl))⟩
set_option maxHeartbeats 400000 in
theorem c_r37_weight (n : Nat) (M : Bs) (w0 : World) (hM : ∀ b, M b → b < w0.heap.size) (m_ : Model) (Ap01 : Option Addr) (cp01 : Nat) (hp01 : SlR RWeight M w0 Ap01 (m_.Weights).length cp01 (m_.Weights)) (s_ : (List UInt8)) (lp11 : (s_).length ≤ 9223372036854775807) (r : Int) (hg : r37_weight n m_ s_ = some r) :
    Calls Tryz.prog 36 [.agg #[.slice (Ap01) ((m_.Weights).length) (cp01)], .string (bs (s_))].toArray w0 (Ret noB w0 fun v w => v = .int .i64 (r)) := by
 unfold r37_weight at hg
 refine enter M noB func36 rfl rfl hM ?_
 intro a s
 replace s := s.es 101 hp01
 apply wR
 refine l_seq rfl (l_box (zs := [sl Ap01 (m_.Weights) cp01]) s 1000 rfl rfl rfl rfl fun b2 a w hb hK s => ?_)
 refine asg s rfl rfl fun a s => ?_
 apply wN
 apply wQ
 apply wR
 refine asg s rfl rfl fun a s => ?_
 apply wN
 apply wp_block
 refine c_loop (σ := Nat) (fun m1 a w => ∃ (i_3 : Nat), r37_weight_L0 n m_ s_ m1 i_3 = some r ∧ St (⟨Tryz.f36.ntmps, M, noB, w0⟩ : Ctx) [(1, vT s_), (2, vP b2 0), (5, vI (((i_3 : Nat) : Int)))] [(1000, Ob.box b2 [sl Ap01 (m_.Weights) cp01] 24)] [(101, slF RWeight (Ap01) ((m_.Weights).length) (cp01) (m_.Weights))] a w) (fun m1 => m1) n ⟨(0), hg, (s.sb rfl rfl rfl)⟩ ?_
 clear s a; rintro m1 a w ⟨i_3, hg, s⟩
 rcases m1 with _ | m1
 ·rw [r37_weight_L0] at hg; cases hg
 rw [r37_weight_L0] at hg
 apply wQ
 apply wR
 refine mv s rfl rfl fun a s => ?_
 refine qq s rfl (y_boxField (o' := 0) s rfl underlying24 rfl rfl rfl) fun a s => ?_
 refine qq s rfl (y_loadBox1 (kk := 1000) s rfl rfl rfl underlying22 rfl) fun a s => ?_
 refine qq s rfl (y_lenSlice s rfl underlying22) fun a s => ?_
 refine qq s rfl (y_lssN (i := i_3) (j := ((m_.Weights).length)) s rfl rfl) fun a s => ?_
 apply wN
 refine c_dec s rfl (fun hc4 => ?_) (fun hc4 => ?_)
 ·replace hg := br_t hg hc4
  have hmx5 := SlR.mx (s.ft 101 rfl)
  apply wp_skip
  apply pN
  apply wQ
  apply wp_block
  apply wQ
  obtain ⟨x7, hx7, hg⟩ := bind_some hg
  apply wL
  refine qq s rfl (y_boxField (o' := 0) s rfl underlying24 rfl rfl rfl) fun a s => ?_
  refine qq s rfl (y_loadBox1 (kk := 1000) s rfl rfl rfl underlying22 rfl) fun a s => ?_
  refine mv s rfl rfl fun a s => ?_
  obtain ⟨p9, hep9, hpp9⟩ := SlR.elemX (s.ft 101 rfl) hx7
  refine qq s rfl (y_elem (sz := 2) (i := i_3) s rfl rfl underlying22 rfl hep9 rfl (lt_of_get hx7)) fun a s => ?_
  refine qq s rfl (y_ptrField (o' := 0) s rfl underlying39 rfl rfl rfl) fun a s => ?_
  obtain ⟨hlq10, hmq10, csq10, hdq10, hcq10⟩ := hpp9
  obtain ⟨rfl, lq101⟩ := RWeight.open hdq10
  refine qq s rfl (y_ldp1 s rfl hlq10 hmq10 (hcq10 0 _ rfl) underlying9 rfl) fun a s => ?_
  refine mv s rfl rfl fun a s => ?_
  refine qq s rfl (y_seq s rfl rfl) fun a s => ?_
  apply wN
  refine c_dec s rfl (fun hc11 => ?_) (fun hc11 => ?_)
  ·replace hg := br_t hg hc11
   apply wR
   refine qq s rfl (y_boxField (o' := 0) s rfl underlying24 rfl rfl rfl) fun a s => ?_
   refine qq s rfl (y_loadBox1 (kk := 1000) s rfl rfl rfl underlying22 rfl) fun a s => ?_
   refine mv s rfl rfl fun a s => ?_
   obtain ⟨p14, hep14, hpp14⟩ := SlR.elemX (s.ft 101 rfl) hx7
   refine qq s rfl (y_elem (sz := 2) (i := i_3) s rfl rfl underlying22 rfl hep14 rfl (lt_of_get hx7)) fun a s => ?_
   refine qq s rfl (y_ptrField (o' := 1) s rfl underlying39 rfl rfl rfl) fun a s => ?_
   obtain ⟨hlq15, hmq15, csq15, hdq15, hcq15⟩ := hpp14
   obtain ⟨rfl, lq151⟩ := RWeight.open hdq15
   refine qq s rfl (y_ldp1 s rfl hlq15 hmq15 (hcq15 1 _ rfl) underlying3 rfl) fun a s => ?_
   refine asg s rfl rfl fun a s => ?_
   apply wN
   apply wp_ret
   refine p_inR ?_
   refine p_thenR ?_
   refine p_thenR ?_
   refine p_inR ?_
   refine p_thenR ?_
   obtain rfl := Option.some.inj hg
   refine fin1 (fn := Tryz.f36) s rfl (r_tmp s rfl) ?_
   exact rfl
  replace hg := br_f hg hc11
  apply wp_skip
  refine p_inN ?_
  apply pN
  apply wL
  refine mv s rfl rfl fun a s => ?_
  refine qq s rfl (y_addN (i := i_3) (j := 1) s rfl rfl (in64.2 (by omega))) fun a s => ?_
  refine asg s rfl rfl fun a s => ?_
  apply wN
  exact ⟨m1, Nat.lt_succ_self _, ⟨(i_3 + 1), hg, (s.sb rfl rfl rfl)⟩⟩
 replace hg := br_f hg hc4
 apply wp_exit
 refine p_then ?_
 refine p_then ?_
 refine p_in ?_
 apply pN
 apply wR
 refine asg s rfl rfl fun a s => ?_
 apply wN
 apply wp_ret
 obtain rfl := Option.some.inj hg
 refine fin1 (fn := Tryz.f36) s rfl (r_tmp s rfl) ?_
 exact rfl
set_option maxHeartbeats 400000 in
theorem c_r37_Score (n : Nat) (M : Bs) (w0 : World) (hM : ∀ b, M b → b < w0.heap.size) (m_ : Model) (Ap01 : Option Addr) (cp01 : Nat) (hp01 : SlR RWeight M w0 Ap01 (m_.Weights).length cp01 (m_.Weights)) (d_ : Deriv) (Ap15 : Option Addr) (cp15 : Nat) (lp12 : (d_.Name).length ≤ 9223372036854775807) (hp15 : SlR RDeriv M w0 Ap15 (d_.Kids).length cp15 (d_.Kids)) (r : Int) (hg : r37_Score n m_ d_ = some r) :
    Calls Tryz.prog 54 [.agg #[.slice (Ap01) ((m_.Weights).length) (cp01)], .agg #[.int .i64 (d_.Kind), .string (bs (d_.Name)), .int .i64 (d_.From), .int .i64 (d_.To), .slice (Ap15) ((d_.Kids).length) (cp15)]].toArray w0 (Ret noB w0 fun v w => v = .int .i64 (r)) := by
 unfold r37_Score at hg
 refine enter M noB func54 rfl rfl hM ?_
 intro a s
 replace s := s.es 101 hp01
 replace s := s.es 102 hp15
 apply wR
 refine l_seq rfl (l_box (zs := [sl Ap01 (m_.Weights) cp01]) s 1000 rfl rfl rfl rfl fun b3 a w hb hK s => ?_)
 refine l_seq rfl (l_box (zs := [vI (d_.Kind), vT (d_.Name), vI (d_.From), vI (d_.To), sl Ap15 (d_.Kids) cp15]) s 1001 rfl rfl rfl rfl fun b4 a w hb hK s => ?_)
 refine asg s rfl rfl fun a s => ?_
 apply wN
 apply wQ
 obtain ⟨r5, hr5, hg⟩ := bind_some hg
 apply wL
 refine qq s rfl (y_loadAll (kk := 1001) s rfl rfl underlying42 rfl rfl) fun a s => ?_
 refine l_seq rfl (l_call (cap := []) s rfl func34 rfl (by kernel_rfl) rfl rfl (c_r37_Features n _ _ s.lt d_ (Ap15) (cp15) (by omega) (s.ft 102 rfl) r5 hr5) fun v8 a w hK hp s => ?_)
 obtain ⟨Au9a1, cu9a1, rfl, hu9a1⟩ := hp
 replace s := s.ns 104 hu9a1
 refine asg s rfl rfl fun a s => ?_
 apply wN
 apply wR
 refine asg s rfl rfl fun a s => ?_
 apply wN
 apply wQ
 apply wR
 refine asg s rfl rfl fun a s => ?_
 apply wN
 apply wp_block
 refine c_loop (σ := Nat) (fun m1 a w => ∃ (n_10 : Int) (i_11 : Nat), r37_Score_L0 n m_ r5 m1 n_10 i_11 = some r ∧ St (⟨Tryz.f54.ntmps, M, noB, w0⟩ : Ctx) [(2, vP b3 0), (5, sl Au9a1 (r5) cu9a1), (6, vI n_10), (7, vI (((i_11 : Nat) : Int)))] [(1000, Ob.box b3 [sl Ap01 (m_.Weights) cp01] 24)] [(101, slF RWeight (Ap01) ((m_.Weights).length) (cp01) (m_.Weights)), (104, slF Rep.str (Au9a1) ((r5).length) (cu9a1) (r5))] a w) (fun m1 => m1) n ⟨(0), (0), hg, (s.sb rfl rfl rfl)⟩ ?_
 clear s a; rintro m1 a w ⟨n_10, i_11, hg, s⟩
 rcases m1 with _ | m1
 ·rw [r37_Score_L0] at hg; cases hg
 rw [r37_Score_L0] at hg
 apply wQ
 apply wR
 refine mv s rfl rfl fun a s => ?_
 refine mv s rfl rfl fun a s => ?_
 refine qq s rfl (y_lenSlice s rfl underlying44) fun a s => ?_
 refine qq s rfl (y_lssN (i := i_11) (j := ((r5).length)) s rfl rfl) fun a s => ?_
 apply wN
 refine c_dec s rfl (fun hc12 => ?_) (fun hc12 => ?_)
 ·replace hg := br_t hg hc12
  have hmx13 := SlR.mx (s.ft 104 rfl)
  apply wp_skip
  apply pN
  apply wQ
  apply wp_block
  obtain ⟨x15, hx15, hg⟩ := bind_some hg
  obtain ⟨r17, hr17, hg⟩ := bind_some hg
  obtain ⟨hk20, hg⟩ := chk_some hg
  refine d_plan s [] [(0, some 0), (1, some 1000), (2, some 0), (3, some 0), (4, some 0), (5, some 0), (6, none), (7, none), (8, none)] rfl (by kernel_rfl) (by kernel_rfl) rfl ?_; clear s; intro wr hZ s; have hR := s.wd
  refine qt s hR rfl (y_move s rfl) fun a s => ?_
  refine qt s hR rfl (y_loadAll (kk := 1000) s rfl rfl underlying24 rfl rfl) fun a s => ?_
  refine qt s hR rfl (y_move s rfl) fun a s => ?_
  refine qt s hR rfl (y_move s rfl) fun a s => ?_
  obtain ⟨p21, hep21, hpp21⟩ := SlR.elemX (s.ft 104 rfl) hx15
  refine qt s hR rfl (y_elem (sz := 1) (i := i_11) s rfl rfl underlying44 rfl hep21 rfl (lt_of_get hx15)) fun a s => ?_
  obtain ⟨hlq22, hmq22, csq22, hdq22, hcq22⟩ := hpp21
  obtain ⟨rfl, lq221⟩ := hdq22
  refine qt s hR rfl (y_ldp1 s rfl hlq22 hmq22 (hcq22 0 _ rfl) underlying9 rfl) fun a s => ?_
  refine l_take s rfl rfl (l_call (cap := []) s rfl func36 rfl (by kernel_rfl) rfl rfl (c_r37_weight n _ _ s.lt m_ (Ap01) (cp01) (s.ft 101 rfl) x15 (by omega) r17 hr17) fun v23 a w hK hp s => ?_)
  replace hZ := Nat.le_trans hZ hK.size; refine ⟨fun g _ h => h.grow hK, ?_⟩; clear hK
  obtain rfl := hp
  refine l_take s rfl rfl (l_quiet s rfl rfl (y_add s rfl rfl (in64.2 hk20)) fun a s => ?_); refine ⟨fun g _ h => h, ?_⟩
  refine l_take s rfl rfl (l_quiet s rfl rfl (y_assign s rfl) fun a s => ?_); refine ⟨fun g _ h => h, ?_⟩
  clear hR hZ
  refine p_inN ?_
  apply pN
  apply wL
  refine mv s rfl rfl fun a s => ?_
  refine qq s rfl (y_addN (i := i_11) (j := 1) s rfl rfl (in64.2 (by omega))) fun a s => ?_
  refine asg s rfl rfl fun a s => ?_
  apply wN
  exact ⟨m1, Nat.lt_succ_self _, ⟨(n_10 + r17), (i_11 + 1), hg, (s.sb rfl rfl rfl)⟩⟩
 replace hg := br_f hg hc12
 apply wp_exit
 refine p_then ?_
 refine p_then ?_
 refine p_in ?_
 apply pN
 apply wR
 refine mv s rfl rfl fun a s => ?_
 refine asg s rfl rfl fun a s => ?_
 apply wN
 apply wp_ret
 obtain rfl := Option.some.inj hg
 refine fin1 (fn := Tryz.f54) s rfl (r_tmp s rfl) ?_
 exact rfl
set_option maxHeartbeats 400000 in
theorem c_r37_Best (n : Nat) (M : Bs) (w0 : World) (hM : ∀ b, M b → b < w0.heap.size) (m_ : Model) (Ap01 : Option Addr) (cp01 : Nat) (hp01 : SlR RWeight M w0 Ap01 (m_.Weights).length cp01 (m_.Weights)) (l_ : (List Deriv)) (Ap11 : Option Addr) (cp11 : Nat) (hp11 : SlR RDeriv M w0 Ap11 (l_).length cp11 (l_)) (r : Int) (hg : r37_Best n m_ l_ = some r) :
    Calls Tryz.prog 32 [.agg #[.slice (Ap01) ((m_.Weights).length) (cp01)], .slice (Ap11) ((l_).length) (cp11)].toArray w0 (Ret noB w0 fun v w => v = .int .i64 (r)) := by
 unfold r37_Best at hg
 refine enter M noB func32 rfl rfl hM ?_
 intro a s
 replace s := s.es 101 hp01
 replace s := s.es 102 hp11
 apply wR
 refine l_seq rfl (l_box (zs := [sl Ap01 (m_.Weights) cp01]) s 1000 rfl rfl rfl rfl fun b2 a w hb hK s => ?_)
 refine asg s rfl rfl fun a s => ?_
 apply wN
 apply wR
 refine asg s rfl rfl fun a s => ?_
 apply wN
 apply wQ
 apply wR
 refine asg s rfl rfl fun a s => ?_
 apply wN
 apply wp_block
 refine c_loop (σ := Nat) (fun m1 a w => ∃ (b_3 : Int) (i_4 : Nat), r37_Best_L0 n m_ l_ m1 b_3 i_4 = some r ∧ St (⟨Tryz.f32.ntmps, M, noB, w0⟩ : Ctx) [(1, sl Ap11 (l_) cp11), (2, vP b2 0), (5, vI b_3), (6, vI (((i_4 : Nat) : Int)))] [(1000, Ob.box b2 [sl Ap01 (m_.Weights) cp01] 24)] [(101, slF RWeight (Ap01) ((m_.Weights).length) (cp01) (m_.Weights)), (102, slF RDeriv (Ap11) ((l_).length) (cp11) (l_))] a w) (fun m1 => m1) n ⟨(-1), (0), hg, (s.sb rfl rfl rfl)⟩ ?_
 clear s a; rintro m1 a w ⟨b_3, i_4, hg, s⟩
 rcases m1 with _ | m1
 ·rw [r37_Best_L0] at hg; cases hg
 rw [r37_Best_L0] at hg
 apply wQ
 apply wR
 refine mv s rfl rfl fun a s => ?_
 refine mv s rfl rfl fun a s => ?_
 refine qq s rfl (y_lenSlice s rfl underlying35) fun a s => ?_
 refine qq s rfl (y_lssN (i := i_4) (j := ((l_).length)) s rfl rfl) fun a s => ?_
 apply wN
 refine c_dec s rfl (fun hc5 => ?_) (fun hc5 => ?_)
 ·replace hg := br_t hg hc5
  have hmx6 := SlR.mx (s.ft 102 rfl)
  apply wp_skip
  apply pN
  apply wQ
  apply wp_block
  apply wQ
  apply wR
  refine mv s rfl rfl fun a s => ?_
  refine qq s rfl (y_lss s rfl rfl) fun a s => ?_
  apply wN
  refine c_dec s rfl (fun hc7 => ?_) (fun hc7 => ?_)
  ·replace hg := br_t hg hc7
   apply wR
   refine mv s rfl rfl fun a s => ?_
   refine asg s rfl rfl fun a s => ?_
   apply wN
   apply wp_exit
   refine p_then ?_
   refine p_in ?_
   apply pN
   apply wL
   refine mv s rfl rfl fun a s => ?_
   refine qq s rfl (y_addN (i := i_4) (j := 1) s rfl rfl (in64.2 (by omega))) fun a s => ?_
   refine asg s rfl rfl fun a s => ?_
   apply wN
   exact ⟨m1, Nat.lt_succ_self _, ⟨(((i_4 : Nat) : Int)), (i_4 + 1), hg, (s.sb rfl rfl rfl)⟩⟩
  replace hg := br_f hg hc7
  apply wp_skip
  apply pN
  apply wQ
  obtain ⟨x9, hx9, hg⟩ := bind_some hg
  obtain ⟨r11, hr11, hg⟩ := bind_some hg
  refine d_plan s [] [(0, some 1000), (1, some 0), (2, some 0), (3, some 0), (4, some 0), (5, none), (6, none)] rfl (by kernel_rfl) (by kernel_rfl) rfl ?_; clear s; intro wr hZ s; have hR := s.wd
  refine qt s hR rfl (y_loadAll (kk := 1000) s rfl rfl underlying24 rfl rfl) fun a s => ?_
  refine qt s hR rfl (y_move s rfl) fun a s => ?_
  refine qt s hR rfl (y_move s rfl) fun a s => ?_
  obtain ⟨p14, hep14, hpp14⟩ := SlR.elemX (s.ft 102 rfl) hx9
  refine qt s hR rfl (y_elem (sz := 5) (i := i_4) s rfl rfl underlying35 rfl hep14 rfl (lt_of_get hx9)) fun a s => ?_
  obtain ⟨hlq15, hmq15, csq15, hdq15, hcq15⟩ := hpp14
  obtain ⟨Aq155, cq155, rfl, lq152, hq155⟩ := RDeriv.open hdq15
  replace s := s.ns 104 hq155
  refine qt s hR rfl (y_ldp s rfl hlq15 hmq15 (by simpa using hcq15) underlying42 rfl rfl) fun a s => ?_
  refine l_take s rfl rfl (l_call (cap := []) s rfl func54 rfl (by kernel_rfl) rfl rfl (c_r37_Score n _ _ s.lt m_ (Ap01) (cp01) (s.ft 101 rfl) x9 (Aq155) (cq155) (by omega) (s.ft 104 rfl) r11 hr11) fun v16 a w hK hp s => ?_)
  replace hZ := Nat.le_trans hZ hK.size; refine ⟨fun g _ h => h.grow hK, ?_⟩; clear hK
  obtain rfl := hp
  refine l_take s rfl rfl (l_quiet s rfl rfl (y_assign s rfl) fun a s => ?_); refine ⟨fun g _ h => h, ?_⟩
  clear hR hZ
  apply pN
  apply wQ
  obtain ⟨x19, hx19, hg⟩ := bind_some hg
  obtain ⟨r21, hr21, hg⟩ := bind_some hg
  refine d_plan s [] [(0, some 1000), (1, some 0), (2, some 0), (3, some 0), (4, some 0), (5, none), (6, none)] rfl (by kernel_rfl) (by kernel_rfl) rfl ?_; clear s; intro wr hZ s; have hR := s.wd
  refine qt s hR rfl (y_loadAll (kk := 1000) s rfl rfl underlying24 rfl rfl) fun a s => ?_
  refine qt s hR rfl (y_move s rfl) fun a s => ?_
  refine qt s hR rfl (y_move s rfl) fun a s => ?_
  obtain ⟨p24, hep24, hpp24⟩ := SlR.elemX (s.ft 102 rfl) (ix_some hx19).1
  refine qt s hR rfl (y_elem (sz := 5) (i := ((b_3).toNat)) s rfl rfl underlying35 rfl hep24 (ix_some hx19).2.1 (lt_of_get (ix_some hx19).1)) fun a s => ?_
  obtain ⟨hlq25, hmq25, csq25, hdq25, hcq25⟩ := hpp24
  obtain ⟨Aq255, cq255, rfl, lq252, hq255⟩ := RDeriv.open hdq25
  replace s := s.ns 106 hq255
  refine qt s hR rfl (y_ldp s rfl hlq25 hmq25 (by simpa using hcq25) underlying42 rfl rfl) fun a s => ?_
  refine l_take s rfl rfl (l_call (cap := []) s rfl func54 rfl (by kernel_rfl) rfl rfl (c_r37_Score n _ _ s.lt m_ (Ap01) (cp01) (s.ft 101 rfl) x19 (Aq255) (cq255) (by omega) (s.ft 106 rfl) r21 hr21) fun v26 a w hK hp s => ?_)
  replace hZ := Nat.le_trans hZ hK.size; refine ⟨fun g _ h => h.grow hK, ?_⟩; clear hK
  obtain rfl := hp
  refine l_take s rfl rfl (l_quiet s rfl rfl (y_assign s rfl) fun a s => ?_); refine ⟨fun g _ h => h, ?_⟩
  clear hR hZ
  apply pN
  apply wQ
  obtain ⟨k28, hg, hk28⟩ := jn_some hg
  refine c_post (fun a w => ∃ (t_29 : Bool), k28 t_29 = some r ∧ St (⟨Tryz.f32.ntmps, M, noB, w0⟩ : Ctx) [(1, sl Ap11 (l_) cp11), (2, vP b2 0), (5, vI b_3), (6, vI (((i_4 : Nat) : Int))), (49, .bool (t_29))] [(1000, Ob.box b2 [sl Ap01 (m_.Weights) cp01] 24)] [(101, slF RWeight (Ap01) ((m_.Weights).length) (cp01) (m_.Weights)), (102, slF RDeriv (Ap11) ((l_).length) (cp11) (l_))] a w) ?_ ?_
  ·rcases Decidable.em (r21 < r11) with hs30 | hs30
   ·have hs30e := decide_eq_true hs30
    replace hg := br_t hg hs30
    refine d_plan s [] [(0, some 0), (1, some 0), (2, some 0), (3, some 0), (4, some 0), (5, some 0), (6, some 0), (7, some 0), (8, some 0), (9, some 0), (10, some 0), (11, some 0), (12, some 0), (13, some 0), (14, some 0), (15, some 0), (16, some 0), (17, some 0), (18, some 0), (19, some 0)] rfl (by kernel_rfl) (by kernel_rfl) rfl ?_; clear s; intro wr hZ s; have hR := s.wd
    refine qt s hR rfl (y_move s rfl) fun a s => ?_
    refine qt s hR rfl (y_move s rfl) fun a s => ?_
    refine qt s hR rfl (yl_b (y_gtr s rfl rfl) hs30e) fun a s => ?_
    refine qt s hR rfl (y_move s rfl) fun a s => ?_
    refine q_pass s hR rfl rfl ⟨_, _, _, rfl, rfl, rfl, rfl⟩ rfl fun a s => ?_
    refine q_pass s hR rfl rfl ⟨_, _, _, rfl, rfl, rfl, rfl⟩ rfl fun a s => ?_
    refine q_pass s hR rfl rfl ⟨_, _, _, rfl, rfl, rfl, rfl⟩ rfl fun a s => ?_
    refine q_pass s hR rfl rfl ⟨_, _, _, rfl, rfl, rfl, rfl⟩ rfl fun a s => ?_
    refine q_pass s hR rfl rfl ⟨_, _, _, rfl, rfl, rfl, rfl⟩ rfl fun a s => ?_
    refine q_pass s hR rfl rfl ⟨_, _, _, rfl, rfl, rfl, rfl⟩ rfl fun a s => ?_
    refine q_pass s hR rfl rfl ⟨_, _, _, rfl, rfl, rfl, rfl⟩ rfl fun a s => ?_
    refine q_pass s hR rfl rfl ⟨_, _, _, rfl, rfl, rfl, rfl⟩ rfl fun a s => ?_
    refine q_pass s hR rfl rfl ⟨_, _, _, rfl, rfl, rfl, rfl⟩ rfl fun a s => ?_
    refine q_pass s hR rfl rfl ⟨_, _, _, rfl, rfl, rfl, rfl⟩ rfl fun a s => ?_
    refine q_pass s hR rfl rfl ⟨_, _, _, rfl, rfl, rfl, rfl⟩ rfl fun a s => ?_
    refine q_pass s hR rfl rfl ⟨_, _, _, rfl, rfl, rfl, rfl⟩ rfl fun a s => ?_
    refine q_pass s hR rfl rfl ⟨_, _, _, rfl, rfl, rfl, rfl⟩ rfl fun a s => ?_
    refine q_pass s hR rfl rfl ⟨_, _, _, rfl, rfl, rfl, rfl⟩ rfl fun a s => ?_
    refine q_pass s hR rfl rfl ⟨_, _, _, rfl, rfl, rfl, rfl⟩ rfl fun a s => ?_
    refine qt s hR rfl (y_pick_t s rfl rfl) fun a s => ?_
    clear hR hZ
    apply pN
    exact ⟨(true), hg, (s.sb rfl rfl rfl)⟩
   have hs30e := decide_eq_false hs30
   replace hg := br_f hg hs30
   rcases Decidable.em (r11 = r21) with hs31 | hs31
   ·have hs31e := decide_eq_true hs31
    replace hg := br_t hg hs31
    obtain ⟨r36, hr36, hg⟩ := bind_some hg
    refine d_plan s [] [(0, some 0), (1, some 0), (2, some 0), (3, some 0), (4, some 0), (5, some 0), (6, some 0), (7, some 0), (8, some 0), (9, some 0), (10, some 0), (11, some 0), (12, some 0), (13, some 0), (14, some 0), (15, some 0), (16, none), (17, none), (18, none), (19, none)] rfl (by kernel_rfl) (by kernel_rfl) rfl ?_; clear s; intro wr hZ s; have hR := s.wd
    refine qt s hR rfl (y_move s rfl) fun a s => ?_
    refine qt s hR rfl (y_move s rfl) fun a s => ?_
    refine qt s hR rfl (yl_b (y_gtr s rfl rfl) hs30e) fun a s => ?_
    refine qt s hR rfl (y_move s rfl) fun a s => ?_
    refine qg s hR rfl (y_move s rfl) fun a s => ?_
    refine qg s hR rfl (y_move s rfl) fun a s => ?_
    refine qg s hR rfl (yl_b (y_eql s rfl rfl) hs31e) fun a s => ?_
    refine qg s hR rfl (y_move s rfl) fun a s => ?_
    refine qg s hR rfl (y_move s rfl) fun a s => ?_
    refine qg s hR rfl (y_move s rfl) fun a s => ?_
    obtain ⟨p39, hep39, hpp39⟩ := SlR.elemX (s.ft 102 rfl) hx9
    refine qg s hR rfl (y_elem (sz := 5) (i := i_4) s rfl rfl underlying35 rfl hep39 rfl (lt_of_get hx9)) fun a s => ?_
    obtain ⟨hlq40, hmq40, csq40, hdq40, hcq40⟩ := hpp39
    obtain ⟨Aq405, cq405, rfl, lq402, hq405⟩ := RDeriv.open hdq40
    replace s := s.ns 109 hq405
    refine qg s hR rfl (y_ldp s rfl hlq40 hmq40 (by simpa using hcq40) underlying42 rfl rfl) fun a s => ?_
    refine qg s hR rfl (y_move s rfl) fun a s => ?_
    refine qg s hR rfl (y_move s rfl) fun a s => ?_
    obtain ⟨p41, hep41, hpp41⟩ := SlR.elemX (s.ft 102 rfl) (ix_some hx19).1
    refine qg s hR rfl (y_elem (sz := 5) (i := ((b_3).toNat)) s rfl rfl underlying35 rfl hep41 (ix_some hx19).2.1 (lt_of_get (ix_some hx19).1)) fun a s => ?_
    obtain ⟨hlq42, hmq42, csq42, hdq42, hcq42⟩ := hpp41
    obtain ⟨Aq425, cq425, rfl, lq422, hq425⟩ := RDeriv.open hdq42
    replace s := s.ns 110 hq425
    refine qg s hR rfl (y_ldp s rfl hlq42 hmq42 (by simpa using hcq42) underlying42 rfl rfl) fun a s => ?_
    refine l_take s rfl ⟨_, _, _, rfl, rfl, rfl, rfl⟩ (l_call (cap := []) s rfl func33 rfl (by kernel_rfl) rfl rfl (c_r28_Compare n _ _ s.lt x9 (Aq405) (cq405) (by omega) (s.ft 109 rfl) x19 (Aq425) (cq425) (by omega) (s.ft 110 rfl) r36 hr36) fun v43 a w hK hp s => ?_)
    replace hZ := Nat.le_trans hZ hK.size; refine ⟨fun g _ h => h.grow hK, ?_⟩; clear hK
    obtain rfl := hp
    refine l_take s rfl ⟨_, _, _, rfl, rfl, rfl, rfl⟩ (l_quiet s rfl rfl (y_lss s rfl rfl) fun a s => ?_); refine ⟨fun g _ h => h, ?_⟩
    refine l_take s rfl ⟨_, _, _, rfl, rfl, rfl, rfl⟩ (l_quiet s rfl rfl (y_pick_t s rfl rfl) fun a s => ?_); refine ⟨fun g _ h => h, ?_⟩
    refine l_take s rfl rfl (l_quiet s rfl rfl (y_pick_f s rfl rfl) fun a s => ?_); refine ⟨fun g _ h => h, ?_⟩
    clear hR hZ
    apply pN
    exact ⟨(decide (r36 < 0)), hg, (s.sb rfl rfl rfl)⟩
   have hs31e := decide_eq_false hs31
   replace hg := br_f hg hs31
   refine d_plan s [] [(0, some 0), (1, some 0), (2, some 0), (3, some 0), (4, some 0), (5, some 0), (6, some 0), (7, some 0), (8, some 0), (9, some 0), (10, some 0), (11, some 0), (12, some 0), (13, some 0), (14, some 0), (15, some 0), (16, some 0), (17, some 0), (18, some 0), (19, some 0)] rfl (by kernel_rfl) (by kernel_rfl) rfl ?_; clear s; intro wr hZ s; have hR := s.wd
   refine qt s hR rfl (y_move s rfl) fun a s => ?_
   refine qt s hR rfl (y_move s rfl) fun a s => ?_
   refine qt s hR rfl (yl_b (y_gtr s rfl rfl) hs30e) fun a s => ?_
   refine qt s hR rfl (y_move s rfl) fun a s => ?_
   refine qg s hR rfl (y_move s rfl) fun a s => ?_
   refine qg s hR rfl (y_move s rfl) fun a s => ?_
   refine qg s hR rfl (yl_b (y_eql s rfl rfl) hs31e) fun a s => ?_
   refine qg s hR rfl (y_move s rfl) fun a s => ?_
   refine q_pass s hR rfl rfl ⟨_, _, _, rfl, rfl, rfl, rfl⟩ rfl fun a s => ?_
   refine q_pass s hR rfl rfl ⟨_, _, _, rfl, rfl, rfl, rfl⟩ rfl fun a s => ?_
   refine q_pass s hR rfl rfl ⟨_, _, _, rfl, rfl, rfl, rfl⟩ rfl fun a s => ?_
   refine q_pass s hR rfl rfl ⟨_, _, _, rfl, rfl, rfl, rfl⟩ rfl fun a s => ?_
   refine q_pass s hR rfl rfl ⟨_, _, _, rfl, rfl, rfl, rfl⟩ rfl fun a s => ?_
   refine q_pass s hR rfl rfl ⟨_, _, _, rfl, rfl, rfl, rfl⟩ rfl fun a s => ?_
   refine q_pass s hR rfl rfl ⟨_, _, _, rfl, rfl, rfl, rfl⟩ rfl fun a s => ?_
   refine q_pass s hR rfl rfl ⟨_, _, _, rfl, rfl, rfl, rfl⟩ rfl fun a s => ?_
   refine q_pass s hR rfl rfl ⟨_, _, _, rfl, rfl, rfl, rfl⟩ rfl fun a s => ?_
   refine q_pass s hR rfl rfl ⟨_, _, _, rfl, rfl, rfl, rfl⟩ rfl fun a s => ?_
   refine qg s hR rfl (y_pick_f s rfl rfl) fun a s => ?_
   refine qt s hR rfl (y_pick_f s rfl rfl) fun a s => ?_
   clear hR hZ
   apply pN
   exact ⟨(false), hg, (s.sb rfl rfl rfl)⟩
  clear s a; rintro a w ⟨t_29, hg, s⟩
  subst hk28
  refine c_cond s rfl (fun hc45 => ?_) (fun hc45 => ?_)
  ·replace hg := br_t hg hc45
   apply wL
   refine mv s rfl rfl fun a s => ?_
   refine asg s rfl rfl fun a s => ?_
   apply wO
   refine p_inN ?_
   apply pN
   apply wL
   refine mv s rfl rfl fun a s => ?_
   refine qq s rfl (y_addN (i := i_4) (j := 1) s rfl rfl (in64.2 (by omega))) fun a s => ?_
   refine asg s rfl rfl fun a s => ?_
   apply wN
   exact ⟨m1, Nat.lt_succ_self _, ⟨(((i_4 : Nat) : Int)), (i_4 + 1), hg, (s.sb rfl rfl rfl)⟩⟩
  replace hg := br_n hg hc45
  apply wp_skip
  refine p_inN ?_
  apply pN
  apply wL
  refine mv s rfl rfl fun a s => ?_
  refine qq s rfl (y_addN (i := i_4) (j := 1) s rfl rfl (in64.2 (by omega))) fun a s => ?_
  refine asg s rfl rfl fun a s => ?_
  apply wN
  exact ⟨m1, Nat.lt_succ_self _, ⟨(b_3), (i_4 + 1), hg, (s.sb rfl rfl rfl)⟩⟩
 replace hg := br_f hg hc5
 apply wp_exit
 refine p_then ?_
 refine p_then ?_
 refine p_in ?_
 apply pN
 apply wR
 refine mv s rfl rfl fun a s => ?_
 refine asg s rfl rfl fun a s => ?_
 apply wN
 apply wp_ret
 obtain rfl := Option.some.inj hg
 refine fin1 (fn := Tryz.f32) s rfl (r_tmp s rfl) ?_
 exact rfl
end Go.Proofs.YthgdajiipojnoaaGreatDoor
