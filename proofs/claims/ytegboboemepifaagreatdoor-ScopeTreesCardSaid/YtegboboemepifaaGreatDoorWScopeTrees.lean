/- Chapter 41: the walk of ScopeTrees -/
import Derived.Test.YtegboboemepifaaGreatDoorW5
namespace Go.Proofs.YtegboboemepifaaGreatDoor
open Go.Gl Go.RowKit Tryz
set_option linter.unusedVariables false
set_option linter.unusedSimpArgs false
set_option maxRecDepth 4000

set_option maxHeartbeats 400000 in
theorem c_law41_ScopeTrees (n : Nat) (M : Bs) (w0 : World) (hM : ∀ b, M b → b < w0.heap.size) (t_ : MRS) (Ap03 : Option Addr) (cp03 : Nat) (Ap04 : Option Addr) (cp04 : Nat) (Ap05 : Option Addr) (cp05 : Nat) (hp03 : SlR Rep.str M w0 Ap03 (t_.Vars).length cp03 (t_.Vars)) (hp04 : SlR REP M w0 Ap04 (t_.Rels).length cp04 (t_.Rels)) (hp05 : SlR RQeq M w0 Ap05 (t_.Cons).length cp05 (t_.Cons)) (t_' : (List Int)) (Ap11 : Option Addr) (cp11 : Nat) (hp11 : SlR (Rep.num .i64) M w0 Ap11 (t_').length cp11 (t_')) (hTab : (tabF Tryz.prog).p M w0) (r : Bool) (hg : law41_ScopeTrees n t_ t_' = some r) :
    Calls Tryz.prog 7 [.agg #[.int .i64 (t_.Top), .int .i64 (t_.Index), .slice (Ap03) ((t_.Vars).length) (cp03), .slice (Ap04) ((t_.Rels).length) (cp04), .slice (Ap05) ((t_.Cons).length) (cp05)], .slice (Ap11) ((t_').length) (cp11)].toArray w0 (Ret noB w0 fun v w => v = .bool (r)) := by
 unfold law41_ScopeTrees at hg
 refine enter M noB func7 rfl rfl hM ?_
 intro a s
 replace s := s.es 101 hp03
 replace s := s.es 102 hp04
 replace s := s.es 103 hp05
 replace s := s.es 104 hp11
 replace s := s.add 7 (tabF Tryz.prog) (by exact Fact.change _ enterM hTab)
 apply wR
 refine l_seq rfl (l_box (zs := [vI (t_.Top), vI (t_.Index), sl Ap03 (t_.Vars) cp03, sl Ap04 (t_.Rels) cp04, sl Ap05 (t_.Cons) cp05]) s 1000 rfl rfl rfl rfl fun b2 a w hb hK s => ?_)
 refine asg s rfl rfl fun a s => ?_
 apply wN
 apply wQ
 apply wQ
 obtain ⟨k3, hg, hk3⟩ := jn_some hg
 refine c_post (fun a w => ∃ (t_4 : Bool), k3 t_4 = some r ∧ St (⟨Tryz.f7.ntmps, M, noB, w0⟩ : Ctx) [(1, sl Ap11 (t_') cp11), (2, vP b2 0), (31, .bool (t_4))] [(1000, Ob.box b2 [vI (t_.Top), vI (t_.Index), sl Ap03 (t_.Vars) cp03, sl Ap04 (t_.Rels) cp04, sl Ap05 (t_.Cons) cp05] 26)] [(7, tabF Tryz.prog), (101, slF Rep.str (Ap03) ((t_.Vars).length) (cp03) (t_.Vars)), (102, slF REP (Ap04) ((t_.Rels).length) (cp04) (t_.Rels)), (103, slF RQeq (Ap05) ((t_.Cons).length) (cp05) (t_.Cons)), (104, slF (Rep.num .i64) (Ap11) ((t_').length) (cp11) (t_'))] a w) ?_ ?_
 ·obtain ⟨r5, hr5, hg⟩ := bind_some hg
  rcases Bool.eq_false_or_eq_true (!(r5)) with hs8 | hs8
  ·replace hg := br_t hg hs8
   apply wL
   refine qq s rfl (y_loadAll (kk := 1000) s rfl rfl underlying26 rfl rfl) fun a s => ?_
   refine l_seq rfl (l_call (cap := []) s rfl func9 rfl (by kernel_rfl) rfl rfl (c_law41_valid n _ _ s.lt t_ (Ap03) (cp03) (Ap04) (cp04) (Ap05) (cp05) (s.ft 101 rfl) (s.ft 102 rfl) (s.ft 103 rfl) r5 hr5) fun v9 a w hK hp s => ?_)
   obtain rfl := hp
   refine qq s rfl (yl_b (y_not s rfl) hs8) fun a s => ?_
   refine mv s rfl rfl fun a s => ?_
   refine gn s rfl fun a s => ?_
   refine gn s rfl fun a s => ?_
   refine gn s rfl fun a s => ?_
   refine qq s rfl (y_pick_t s rfl rfl) fun a s => ?_
   refine mv s rfl rfl fun a s => ?_
   refine gn s rfl fun a s => ?_
   refine gn s rfl fun a s => ?_
   refine gn s rfl fun a s => ?_
   refine gn s rfl fun a s => ?_
   refine qq s rfl (y_pick_t s rfl rfl) fun a s => ?_
   apply wN
   exact ⟨(true), hg, (s.sb rfl rfl rfl)⟩
  replace hg := br_n hg hs8
  rcases Decidable.em ((20 : Nat) < ((t_').length)) with hs11 | hs11
  ·have hs11e := decide_eq_true hs11
   replace hg := br_t hg hs11
   have hmx12 := SlR.mx (s.ft 104 rfl)
   apply wL
   refine qq s rfl (y_loadAll (kk := 1000) s rfl rfl underlying26 rfl rfl) fun a s => ?_
   refine l_seq rfl (l_call (cap := []) s rfl func9 rfl (by kernel_rfl) rfl rfl (c_law41_valid n _ _ s.lt t_ (Ap03) (cp03) (Ap04) (cp04) (Ap05) (cp05) (s.ft 101 rfl) (s.ft 102 rfl) (s.ft 103 rfl) r5 hr5) fun v13 a w hK hp s => ?_)
   obtain rfl := hp
   refine qq s rfl (yl_b (y_not s rfl) hs8) fun a s => ?_
   refine mv s rfl rfl fun a s => ?_
   refine gm s rfl rfl fun a s => ?_
   refine gy s rfl (y_lenSlice s rfl underlying30) fun a s => ?_
   refine gy s rfl (yl_b (y_gtrN (i := ((t_').length)) (j := 20) s rfl rfl) hs11e) fun a s => ?_
   refine qq s rfl (y_pick_f s rfl rfl) fun a s => ?_
   refine mv s rfl rfl fun a s => ?_
   refine gn s rfl fun a s => ?_
   refine gn s rfl fun a s => ?_
   refine gn s rfl fun a s => ?_
   refine gn s rfl fun a s => ?_
   refine qq s rfl (y_pick_t s rfl rfl) fun a s => ?_
   apply wN
   exact ⟨(true), hg, (s.sb rfl rfl rfl)⟩
  have hs11e := decide_eq_false hs11
  replace hg := br_f hg hs11
  obtain ⟨r15, hr15, hg⟩ := bind_some hg
  apply wL
  refine qq s rfl (y_loadAll (kk := 1000) s rfl rfl underlying26 rfl rfl) fun a s => ?_
  refine l_seq rfl (l_call (cap := []) s rfl func9 rfl (by kernel_rfl) rfl rfl (c_law41_valid n _ _ s.lt t_ (Ap03) (cp03) (Ap04) (cp04) (Ap05) (cp05) (s.ft 101 rfl) (s.ft 102 rfl) (s.ft 103 rfl) r5 hr5) fun v18 a w hK hp s => ?_)
  obtain rfl := hp
  refine qq s rfl (yl_b (y_not s rfl) hs8) fun a s => ?_
  refine mv s rfl rfl fun a s => ?_
  refine gm s rfl rfl fun a s => ?_
  refine gy s rfl (y_lenSlice s rfl underlying30) fun a s => ?_
  refine gy s rfl (yl_b (y_gtrN (i := ((t_').length)) (j := 20) s rfl rfl) hs11e) fun a s => ?_
  refine qq s rfl (y_pick_f s rfl rfl) fun a s => ?_
  refine mv s rfl rfl fun a s => ?_
  refine gy s rfl (y_loadAll (kk := 1000) s rfl rfl underlying26 rfl rfl) fun a s => ?_
  refine gm s rfl rfl fun a s => ?_
  refine gl s rfl (l_call (cap := []) s rfl func19 rfl (by kernel_rfl) rfl rfl (c_scope_Valid n _ _ s.lt t_ (Ap03) (cp03) (Ap04) (cp04) (Ap05) (cp05) (s.ft 101 rfl) (s.ft 102 rfl) (s.ft 103 rfl) t_' (Ap11) (cp11) (s.ft 104 rfl) r15 hr15) fun v20 a w hK hp s => ?_)
  obtain rfl := hp
  refine gy s rfl (y_neq s rfl rfl) fun a s => ?_
  refine qq s rfl (y_pick_f s rfl rfl) fun a s => ?_
  apply wN
  exact ⟨(decide (r15 ≠ 0)), hg, (s.sb rfl rfl rfl)⟩
 clear s a; rintro a w ⟨t_4, hg, s⟩
 subst hk3
 refine c_cond s rfl (fun hc22 => ?_) (fun hc22 => ?_)
 ·replace hg := br_t hg hc22
  apply wQ
  obtain ⟨r23, hr23, hg⟩ := bind_some hg
  apply wL
  refine l_seq rfl (l_call (cap := []) s rfl func10 rfl (by kernel_rfl) rfl rfl (c_law41_exampleHolds n _ _ s.lt (s.ft 7 rfl) r23 hr23) fun v26 a w hK hp s => ?_)
  obtain rfl := hp
  refine asg s rfl rfl fun a s => ?_
  apply wN
  apply wp_ret
  refine p_thenR ?_
  obtain rfl := Option.some.inj hg
  refine fin1 (fn := Tryz.f7) s rfl (r_tmp s rfl) ?_
  exact rfl
 replace hg := br_n hg hc22
 apply wp_skip
 apply pN
 apply wQ
 obtain ⟨r28, hr28, hg⟩ := bind_some hg
 obtain ⟨r31, hr31, hg⟩ := bind_some hg
 refine d_plan s [] [(0, some 1000), (2, some 1000), (1, none), (3, none), (4, none), (5, none)] rfl (by kernel_rfl) (by kernel_rfl) rfl ?_; clear s; intro wr hZ s; have hR := s.wd
 refine qt s hR rfl (y_loadAll (kk := 1000) s rfl rfl underlying26 rfl rfl) fun a s => ?_
 refine qt s hR rfl (y_loadAll (kk := 1000) s rfl rfl underlying26 rfl rfl) fun a s => ?_
 refine l_take s rfl rfl (l_call (cap := []) s rfl func15 rfl (by kernel_rfl) rfl rfl (c_r41_Labels n _ _ s.lt t_ (Ap03) (cp03) (Ap04) (cp04) (Ap05) (cp05) (s.ft 101 rfl) (s.ft 102 rfl) (s.ft 103 rfl) r28 hr28) fun v34 a w hK hp s => ?_)
 replace hZ := Nat.le_trans hZ hK.size; refine ⟨fun g _ h => h.grow hK, ?_⟩; clear hK
 obtain ⟨Au35a1, cu35a1, rfl, hu35a1⟩ := hp
 replace s := s.ns 107 hu35a1
 refine l_take s rfl rfl (l_call (cap := []) s rfl func13 rfl (by kernel_rfl) rfl rfl (c_r41_Holes n _ _ s.lt t_ (Ap03) (cp03) (Ap04) (cp04) (Ap05) (cp05) (s.ft 101 rfl) (s.ft 102 rfl) (s.ft 103 rfl) r31 hr31) fun v36 a w hK hp s => ?_)
 replace hZ := Nat.le_trans hZ hK.size; refine ⟨fun g _ h => h.grow hK, ?_⟩; clear hK
 obtain ⟨Au37a1, cu37a1, rfl, hu37a1⟩ := hp
 replace s := s.ns 108 hu37a1
 refine l_take s rfl rfl (l_quiet s rfl rfl (y_assign s rfl) fun a s => ?_); refine ⟨fun g _ h => h, ?_⟩
 refine l_take s rfl rfl (l_quiet s rfl rfl (y_assign s rfl) fun a s => ?_); refine ⟨fun g _ h => h, ?_⟩
 clear hR hZ
 apply pN
 apply wR
 refine qq s rfl (y_boxField (o' := 0) s rfl underlying26 rfl rfl rfl) fun a s => ?_
 refine qq s rfl (y_loadBox1 (kk := 1000) s rfl rfl rfl underlying3 rfl) fun a s => ?_
 refine asg s rfl rfl fun a s => ?_
 apply wN
 apply wQ
 apply wR
 refine mv s rfl rfl fun a s => ?_
 refine qq s rfl (y_lenSlice s rfl underlying30) fun a s => ?_
 refine mv s rfl rfl fun a s => ?_
 apply wN
 obtain ⟨k38, hg, hk38⟩ := jn_some hg
 refine c_post (fun a w => ∃ (t_39 : Int), k38 t_39 = some r ∧ St (⟨Tryz.f7.ntmps, M, noB, w0⟩ : Ctx) [(1, sl Ap11 (t_') cp11), (2, vP b2 0), (5, sl Au35a1 (r28) cu35a1), (7, vI t_39)] [(1000, Ob.box b2 [vI (t_.Top), vI (t_.Index), sl Ap03 (t_.Vars) cp03, sl Ap04 (t_.Rels) cp04, sl Ap05 (t_.Cons) cp05] 26)] [(7, tabF Tryz.prog), (101, slF Rep.str (Ap03) ((t_.Vars).length) (cp03) (t_.Vars)), (102, slF REP (Ap04) ((t_.Rels).length) (cp04) (t_.Rels)), (103, slF RQeq (Ap05) ((t_.Cons).length) (cp05) (t_.Cons)), (104, slF (Rep.num .i64) (Ap11) ((t_').length) (cp11) (t_')), (107, slF (Rep.num .i64) (Au35a1) ((r28).length) (cu35a1) (r28))] a w) ?_ ?_
 ·apply wp_block
  refine c_loop (σ := Nat) (fun m1 a w => ∃ (t_40 : Int) (t_41 : Nat), law41_ScopeTrees_L0 n t_ t_' r31 k38 m1 t_40 t_41 = some r ∧ St (⟨Tryz.f7.ntmps, M, noB, w0⟩ : Ctx) [(1, sl Ap11 (t_') cp11), (2, vP b2 0), (5, sl Au35a1 (r28) cu35a1), (6, sl Au37a1 (r31) cu37a1), (7, vI t_40), (40, vI ((((r31).length : Nat) : Int))), (41, vI (((t_41 : Nat) : Int)))] [(1000, Ob.box b2 [vI (t_.Top), vI (t_.Index), sl Ap03 (t_.Vars) cp03, sl Ap04 (t_.Rels) cp04, sl Ap05 (t_.Cons) cp05] 26)] [(7, tabF Tryz.prog), (101, slF Rep.str (Ap03) ((t_.Vars).length) (cp03) (t_.Vars)), (102, slF REP (Ap04) ((t_.Rels).length) (cp04) (t_.Rels)), (103, slF RQeq (Ap05) ((t_.Cons).length) (cp05) (t_.Cons)), (104, slF (Rep.num .i64) (Ap11) ((t_').length) (cp11) (t_')), (107, slF (Rep.num .i64) (Au35a1) ((r28).length) (cu35a1) (r28)), (108, slF (Rep.num .i64) (Au37a1) ((r31).length) (cu37a1) (r31))] a w) (fun m1 => m1) n ⟨(t_.Top), (0), hg, (s.sb rfl rfl rfl)⟩ ?_
  clear s a; rintro m1 a w ⟨t_40, t_41, hg, s⟩
  rcases m1 with _ | m1
  ·rw [law41_ScopeTrees_L0] at hg; cases hg
  rw [law41_ScopeTrees_L0] at hg
  apply wR
  refine qq s rfl (y_lssN (i := t_41) (j := ((r31).length)) s rfl rfl) fun a s => ?_
  apply wN
  apply wQ
  refine c_dec s rfl (fun hc42 => ?_) (fun hc42 => ?_)
  ·replace hg := br_t hg hc42
   have hmx43 := SlR.mx (s.ft 108 rfl)
   apply wp_skip
   apply pN
   apply wQ
   apply wp_block
   apply wR
   refine mv s rfl rfl fun a s => ?_
   refine asg s rfl rfl fun a s => ?_
   apply wN
   apply wQ
   obtain ⟨x45, hx45, hg⟩ := bind_some hg
   refine d_plan s [] [(0, some 0), (1, some 0), (2, some 0), (3, some 0), (4, some 0), (5, some 1000), (6, some 0)] rfl (by kernel_rfl) (by kernel_rfl) rfl ?_; clear s; intro wr hZ s; have hR := s.wd
   refine qt s hR rfl (y_move s rfl) fun a s => ?_
   refine qt s hR rfl (y_move s rfl) fun a s => ?_
   obtain ⟨p47, hep47, hpp47⟩ := SlR.elemX (s.ft 108 rfl) hx45
   refine qt s hR rfl (y_elem (sz := 1) (i := t_41) s rfl rfl underlying30 rfl hep47 rfl (lt_of_get hx45)) fun a s => ?_
   obtain ⟨hlq48, hmq48, csq48, hdq48, hcq48⟩ := hpp47
   obtain rfl := hdq48
   refine qt s hR rfl (y_ldp1 s rfl hlq48 hmq48 (hcq48 0 _ rfl) underlying3 rfl) fun a s => ?_
   refine qt s hR rfl (y_boxField (o' := 0) s rfl underlying26 rfl rfl rfl) fun a s => ?_
   refine qt s hR rfl (y_loadBox1 (kk := 1000) s rfl rfl rfl underlying3 rfl) fun a s => ?_
   refine qt s hR rfl (y_eql s rfl rfl) fun a s => ?_
   clear hR hZ
   apply pN
   refine c_dec s rfl (fun hc49 => ?_) (fun hc49 => ?_)
   ·replace hg := br_t hg hc49
    obtain ⟨x51, hx51, hg⟩ := bind_some hg
    apply wL
    refine mv s rfl rfl fun a s => ?_
    refine mv s rfl rfl fun a s => ?_
    obtain ⟨p53, hep53, hpp53⟩ := SlR.elemX (s.ft 104 rfl) hx51
    refine qq s rfl (y_elem (sz := 1) (i := t_41) s rfl rfl underlying30 rfl hep53 rfl (lt_of_get hx51)) fun a s => ?_
    obtain ⟨hlq54, hmq54, csq54, hdq54, hcq54⟩ := hpp53
    obtain rfl := hdq54
    refine qq s rfl (y_ldp1 s rfl hlq54 hmq54 (hcq54 0 _ rfl) underlying3 rfl) fun a s => ?_
    refine asg s rfl rfl fun a s => ?_
    apply wO
    refine p_inN ?_
    apply pN
    apply wL
    refine qq s rfl (y_addN (i := t_41) (j := 1) s rfl rfl (in64.2 (by omega))) fun a s => ?_
    refine mv s rfl rfl fun a s => ?_
    apply wN
    exact ⟨m1, Nat.lt_succ_self _, ⟨(x51), (t_41 + 1), hg, (s.sb rfl rfl rfl)⟩⟩
   replace hg := br_f hg hc49
   apply wp_skip
   refine p_inN ?_
   apply pN
   apply wL
   refine qq s rfl (y_addN (i := t_41) (j := 1) s rfl rfl (in64.2 (by omega))) fun a s => ?_
   refine mv s rfl rfl fun a s => ?_
   apply wN
   exact ⟨m1, Nat.lt_succ_self _, ⟨(t_40), (t_41 + 1), hg, (s.sb rfl rfl rfl)⟩⟩
  replace hg := br_f hg hc42
  apply wp_exit
  refine p_then ?_
  refine p_then ?_
  refine p_in ?_
  apply pN
  exact ⟨(t_40), hg, (s.sb rfl rfl rfl)⟩
 clear s a; rintro a w ⟨t_39, hg, s⟩
 subst hk38
 apply wQ
 apply wQ
 obtain ⟨r55, hr55, hg⟩ := bind_some hg
 obtain ⟨r58, hr58, hg⟩ := bind_some hg
 apply wL
 refine qq s rfl (y_loadAll (kk := 1000) s rfl rfl underlying26 rfl rfl) fun a s => ?_
 refine mv s rfl rfl fun a s => ?_
 refine mv s rfl rfl fun a s => ?_
 refine l_seq rfl (l_call (cap := []) s rfl func17 rfl (by kernel_rfl) rfl rfl (c_scope_Below n _ _ s.lt t_ (Ap03) (cp03) (Ap04) (cp04) (Ap05) (cp05) (s.ft 101 rfl) (s.ft 102 rfl) (s.ft 103 rfl) t_' (Ap11) (cp11) (s.ft 104 rfl) t_39 r55 hr55) fun v61 a w hK hp s => ?_)
 obtain ⟨Au62a1, cu62a1, rfl, hu62a1⟩ := hp
 replace s := s.ns 110 hu62a1
 refine mv s rfl rfl fun a s => ?_
 refine l_seq rfl (l_call (cap := []) s rfl func11 rfl (by kernel_rfl) rfl rfl (c_r41_Same n _ _ s.lt r55 (Au62a1) (cu62a1) (s.ft 110 rfl) r28 (Au35a1) (cu35a1) (s.ft 107 rfl) r58 hr58) fun v63 a w hK hp s => ?_)
 obtain rfl := hp
 refine qq s rfl (y_not s rfl) fun a s => ?_
 apply wN
 refine c_cond s rfl (fun hc65 => ?_) (fun hc65 => ?_)
 ·replace hg := br_t hg hc65
  apply wR
  refine asg s rfl rfl fun a s => ?_
  apply wN
  apply wp_ret
  refine p_thenR ?_
  obtain rfl := Option.some.inj hg
  refine fin1 (fn := Tryz.f7) s rfl (r_tmp s rfl) ?_
  exact rfl
 replace hg := br_n hg hc65
 apply wp_skip
 apply pN
 apply wQ
 apply wR
 refine mv s rfl rfl fun a s => ?_
 refine qq s rfl (y_lenSlice s rfl underlying30) fun a s => ?_
 refine mv s rfl rfl fun a s => ?_
 apply wN
 obtain ⟨k66, hg, hk66⟩ := jn_some hg
 refine c_post (fun a w => k66 = some r ∧ St (⟨Tryz.f7.ntmps, M, noB, w0⟩ : Ctx) [] [] [(7, tabF Tryz.prog)] a w) ?_ ?_
 ·apply wp_block
  refine c_loop (σ := Nat) (fun m2 a w => ∃ (t_67 : Nat), law41_ScopeTrees_L1 n t_ t_' r28 k66 m2 t_67 = some r ∧ St (⟨Tryz.f7.ntmps, M, noB, w0⟩ : Ctx) [(1, sl Ap11 (t_') cp11), (2, vP b2 0), (5, sl Au35a1 (r28) cu35a1), (63, sl Au35a1 (r28) cu35a1), (64, vI ((((r28).length : Nat) : Int))), (65, vI (((t_67 : Nat) : Int)))] [(1000, Ob.box b2 [vI (t_.Top), vI (t_.Index), sl Ap03 (t_.Vars) cp03, sl Ap04 (t_.Rels) cp04, sl Ap05 (t_.Cons) cp05] 26)] [(7, tabF Tryz.prog), (101, slF Rep.str (Ap03) ((t_.Vars).length) (cp03) (t_.Vars)), (102, slF REP (Ap04) ((t_.Rels).length) (cp04) (t_.Rels)), (103, slF RQeq (Ap05) ((t_.Cons).length) (cp05) (t_.Cons)), (104, slF (Rep.num .i64) (Ap11) ((t_').length) (cp11) (t_')), (107, slF (Rep.num .i64) (Au35a1) ((r28).length) (cu35a1) (r28))] a w) (fun m2 => m2) n ⟨(0), hg, (s.sb rfl rfl rfl)⟩ ?_
  clear s a; rintro m2 a w ⟨t_67, hg, s⟩
  rcases m2 with _ | m2
  ·rw [law41_ScopeTrees_L1] at hg; cases hg
  rw [law41_ScopeTrees_L1] at hg
  apply wR
  refine qq s rfl (y_lssN (i := t_67) (j := ((r28).length)) s rfl rfl) fun a s => ?_
  apply wN
  apply wQ
  refine c_dec s rfl (fun hc68 => ?_) (fun hc68 => ?_)
  ·replace hg := br_t hg hc68
   have hmx69 := SlR.mx (s.ft 107 rfl)
   apply wp_skip
   apply pN
   apply wQ
   obtain ⟨k70, hg, hk70⟩ := jn_some hg
   refine c_post (fun a w => k70 = some r ∧ St (⟨Tryz.f7.ntmps, M, noB, w0⟩ : Ctx) [(1, sl Ap11 (t_') cp11), (2, vP b2 0), (5, sl Au35a1 (r28) cu35a1), (63, sl Au35a1 (r28) cu35a1), (64, vI ((((r28).length : Nat) : Int))), (65, vI (((t_67 : Nat) : Int)))] [(1000, Ob.box b2 [vI (t_.Top), vI (t_.Index), sl Ap03 (t_.Vars) cp03, sl Ap04 (t_.Rels) cp04, sl Ap05 (t_.Cons) cp05] 26)] [(7, tabF Tryz.prog), (101, slF Rep.str (Ap03) ((t_.Vars).length) (cp03) (t_.Vars)), (102, slF REP (Ap04) ((t_.Rels).length) (cp04) (t_.Rels)), (103, slF RQeq (Ap05) ((t_.Cons).length) (cp05) (t_.Cons)), (104, slF (Rep.num .i64) (Ap11) ((t_').length) (cp11) (t_')), (107, slF (Rep.num .i64) (Au35a1) ((r28).length) (cu35a1) (r28))] a w) ?_ ?_
   ·apply wp_block
    apply wQ
    obtain ⟨x72, hx72, hg⟩ := bind_some hg
    apply wL
    obtain ⟨p74, hep74, hpp74⟩ := SlR.elemX (s.ft 107 rfl) hx72
    refine qq s rfl (y_elem (sz := 1) (i := t_67) s rfl rfl underlying30 rfl hep74 rfl (lt_of_get hx72)) fun a s => ?_
    obtain ⟨hlq75, hmq75, csq75, hdq75, hcq75⟩ := hpp74
    obtain rfl := hdq75
    refine qq s rfl (y_ldp1 s rfl hlq75 hmq75 (hcq75 0 _ rfl) underlying3 rfl) fun a s => ?_
    refine asg s rfl rfl fun a s => ?_
    apply wN
    apply wR
    refine mv s rfl rfl fun a s => ?_
    refine qq s rfl (y_boxField (o' := 0) s rfl underlying26 rfl rfl rfl) fun a s => ?_
    refine qq s rfl (y_loadBox1 (kk := 1000) s rfl rfl rfl underlying3 rfl) fun a s => ?_
    refine qq s rfl (y_eql s rfl rfl) fun a s => ?_
    refine asg s rfl rfl fun a s => ?_
    apply wN
    apply wQ
    apply wR
    refine qq s rfl (y_boxField (o' := 3) s rfl underlying26 rfl rfl rfl) fun a s => ?_
    refine qq s rfl (y_loadBox1 (kk := 1000) s rfl rfl rfl underlying23 rfl) fun a s => ?_
    refine qq s rfl (y_lenSlice s rfl underlying23) fun a s => ?_
    refine mv s rfl rfl fun a s => ?_
    apply wN
    obtain ⟨k76, hg, hk76⟩ := jn_some hg
    refine c_post (fun a w => ∃ (t_77 : Bool), k76 t_77 = some r ∧ St (⟨Tryz.f7.ntmps, M, noB, w0⟩ : Ctx) [(1, sl Ap11 (t_') cp11), (2, vP b2 0), (5, sl Au35a1 (r28) cu35a1), (10, vI x72), (11, .bool (t_77)), (63, sl Au35a1 (r28) cu35a1), (64, vI ((((r28).length : Nat) : Int))), (65, vI (((t_67 : Nat) : Int)))] [(1000, Ob.box b2 [vI (t_.Top), vI (t_.Index), sl Ap03 (t_.Vars) cp03, sl Ap04 (t_.Rels) cp04, sl Ap05 (t_.Cons) cp05] 26)] [(7, tabF Tryz.prog), (101, slF Rep.str (Ap03) ((t_.Vars).length) (cp03) (t_.Vars)), (102, slF REP (Ap04) ((t_.Rels).length) (cp04) (t_.Rels)), (103, slF RQeq (Ap05) ((t_.Cons).length) (cp05) (t_.Cons)), (104, slF (Rep.num .i64) (Ap11) ((t_').length) (cp11) (t_')), (107, slF (Rep.num .i64) (Au35a1) ((r28).length) (cu35a1) (r28))] a w) ?_ ?_
    ·apply wp_block
     refine c_loop (σ := Nat) (fun m3 a w => ∃ (t_78 : Bool) (t_79 : Nat), law41_ScopeTrees_L2 n t_ x72 k76 m3 t_78 t_79 = some r ∧ St (⟨Tryz.f7.ntmps, M, noB, w0⟩ : Ctx) [(1, sl Ap11 (t_') cp11), (2, vP b2 0), (5, sl Au35a1 (r28) cu35a1), (10, vI x72), (11, .bool (t_78)), (63, sl Au35a1 (r28) cu35a1), (64, vI ((((r28).length : Nat) : Int))), (65, vI (((t_67 : Nat) : Int))), (74, sl Ap04 (t_.Rels) cp04), (75, vI ((((t_.Rels).length : Nat) : Int))), (76, vI (((t_79 : Nat) : Int)))] [(1000, Ob.box b2 [vI (t_.Top), vI (t_.Index), sl Ap03 (t_.Vars) cp03, sl Ap04 (t_.Rels) cp04, sl Ap05 (t_.Cons) cp05] 26)] [(7, tabF Tryz.prog), (101, slF Rep.str (Ap03) ((t_.Vars).length) (cp03) (t_.Vars)), (102, slF REP (Ap04) ((t_.Rels).length) (cp04) (t_.Rels)), (103, slF RQeq (Ap05) ((t_.Cons).length) (cp05) (t_.Cons)), (104, slF (Rep.num .i64) (Ap11) ((t_').length) (cp11) (t_')), (107, slF (Rep.num .i64) (Au35a1) ((r28).length) (cu35a1) (r28))] a w) (fun m3 => m3) n ⟨(decide (x72 = t_.Top)), (0), hg, (s.sb rfl rfl rfl)⟩ ?_
     clear s a; rintro m3 a w ⟨t_78, t_79, hg, s⟩
     rcases m3 with _ | m3
     ·rw [law41_ScopeTrees_L2] at hg; cases hg
     rw [law41_ScopeTrees_L2] at hg
     apply wR
     refine qq s rfl (y_lssN (i := t_79) (j := ((t_.Rels).length)) s rfl rfl) fun a s => ?_
     apply wN
     apply wQ
     refine c_dec s rfl (fun hc80 => ?_) (fun hc80 => ?_)
     ·replace hg := br_t hg hc80
      have hmx81 := SlR.mx (s.ft 102 rfl)
      apply wp_skip
      apply pN
      apply wQ
      obtain ⟨k82, hg, hk82⟩ := jn_some hg
      refine c_post (fun a w => ∃ (t_83 : Bool), k82 t_83 = some r ∧ St (⟨Tryz.f7.ntmps, M, noB, w0⟩ : Ctx) [(1, sl Ap11 (t_') cp11), (2, vP b2 0), (5, sl Au35a1 (r28) cu35a1), (10, vI x72), (11, .bool (t_83)), (63, sl Au35a1 (r28) cu35a1), (64, vI ((((r28).length : Nat) : Int))), (65, vI (((t_67 : Nat) : Int))), (74, sl Ap04 (t_.Rels) cp04), (75, vI ((((t_.Rels).length : Nat) : Int))), (76, vI (((t_79 : Nat) : Int)))] [(1000, Ob.box b2 [vI (t_.Top), vI (t_.Index), sl Ap03 (t_.Vars) cp03, sl Ap04 (t_.Rels) cp04, sl Ap05 (t_.Cons) cp05] 26)] [(7, tabF Tryz.prog), (101, slF Rep.str (Ap03) ((t_.Vars).length) (cp03) (t_.Vars)), (102, slF REP (Ap04) ((t_.Rels).length) (cp04) (t_.Rels)), (103, slF RQeq (Ap05) ((t_.Cons).length) (cp05) (t_.Cons)), (104, slF (Rep.num .i64) (Ap11) ((t_').length) (cp11) (t_')), (107, slF (Rep.num .i64) (Au35a1) ((r28).length) (cu35a1) (r28))] a w) ?_ ?_
      ·apply wp_block
       apply wQ
       obtain ⟨x85, hx85, hg⟩ := bind_some hg
       apply wL
       obtain ⟨p88, hep88, hpp88⟩ := SlR.elemX (s.ft 102 rfl) hx85
       refine qq s rfl (y_elem (sz := 3) (i := t_79) s rfl rfl underlying23 rfl hep88 rfl (lt_of_get hx85)) fun a s => ?_
       obtain ⟨hlq89, hmq89, csq89, hdq89, hcq89⟩ := hpp88
       obtain ⟨Aq893, cq893, rfl, lq891, hq893⟩ := REP.open hdq89
       replace s := s.ns 112 hq893
       refine qq s rfl (y_ldp s rfl hlq89 hmq89 (by simpa using hcq89) underlying43 rfl rfl) fun a s => ?_
       refine l_seq rfl (l_alloc (zs := [vT ([]), vI 0, .slice (none) (0) (0)]) s 2902 rfl rfl rfl rfl fun b90 a w hb hK s => ?_)
       refine l_seq rfl (l_store (n := 3) (cs' := [vT (x85.Pred), vI (x85.Label), sl Aq893 (x85.Args) cq893]) s 2902 rfl rfl rfl rfl rfl rfl rfl rfl ?_); clear s; intro w hK s; clear hK
       apply wN
       apply wR
       refine qq s rfl (y_boxField (o' := 2) s rfl underlying43 rfl rfl rfl) fun a s => ?_
       refine qq s rfl (y_loadBox1 (kk := 2902) s rfl rfl rfl underlying41 rfl) fun a s => ?_
       refine qq s rfl (y_lenSlice s rfl underlying41) fun a s => ?_
       refine mv s rfl rfl fun a s => ?_
       apply wN
       apply wp_block
       refine c_loop (σ := Nat) (fun m4 a w => ∃ (t_91 : Bool) (t_92 : Nat), law41_ScopeTrees_L3 n x72 k82 x85 m4 t_91 t_92 = some r ∧ St (⟨Tryz.f7.ntmps, M, noB, w0⟩ : Ctx) [(1, sl Ap11 (t_') cp11), (2, vP b2 0), (5, sl Au35a1 (r28) cu35a1), (10, vI x72), (11, .bool (t_91)), (63, sl Au35a1 (r28) cu35a1), (64, vI ((((r28).length : Nat) : Int))), (65, vI (((t_67 : Nat) : Int))), (74, sl Ap04 (t_.Rels) cp04), (75, vI ((((t_.Rels).length : Nat) : Int))), (76, vI (((t_79 : Nat) : Int))), (81, sl Aq893 (x85.Args) cq893), (82, vI ((((x85.Args).length : Nat) : Int))), (83, vI (((t_92 : Nat) : Int)))] [(1000, Ob.box b2 [vI (t_.Top), vI (t_.Index), sl Ap03 (t_.Vars) cp03, sl Ap04 (t_.Rels) cp04, sl Ap05 (t_.Cons) cp05] 26)] [(7, tabF Tryz.prog), (101, slF Rep.str (Ap03) ((t_.Vars).length) (cp03) (t_.Vars)), (102, slF REP (Ap04) ((t_.Rels).length) (cp04) (t_.Rels)), (103, slF RQeq (Ap05) ((t_.Cons).length) (cp05) (t_.Cons)), (104, slF (Rep.num .i64) (Ap11) ((t_').length) (cp11) (t_')), (107, slF (Rep.num .i64) (Au35a1) ((r28).length) (cu35a1) (r28)), (112, slF RArg (Aq893) ((x85.Args).length) (cq893) (x85.Args))] a w) (fun m4 => m4) n ⟨(t_78), (0), hg, (s.sb rfl rfl rfl)⟩ ?_
       clear s a; rintro m4 a w ⟨t_91, t_92, hg, s⟩
       rcases m4 with _ | m4
       ·rw [law41_ScopeTrees_L3] at hg; cases hg
       rw [law41_ScopeTrees_L3] at hg
       apply wR
       refine qq s rfl (y_lssN (i := t_92) (j := ((x85.Args).length)) s rfl rfl) fun a s => ?_
       apply wN
       apply wQ
       refine c_dec s rfl (fun hc93 => ?_) (fun hc93 => ?_)
       ·replace hg := br_t hg hc93
        have hmx94 := SlR.mx (s.ft 112 rfl)
        apply wp_skip
        apply pN
        apply wQ
        apply wp_block
        apply wQ
        obtain ⟨x96, hx96, hg⟩ := bind_some hg
        apply wL
        obtain ⟨p99, hep99, hpp99⟩ := SlR.elemX (s.ft 112 rfl) hx96
        refine qq s rfl (y_elem (sz := 2) (i := t_92) s rfl rfl underlying41 rfl hep99 rfl (lt_of_get hx96)) fun a s => ?_
        obtain ⟨hlq100, hmq100, csq100, hdq100, hcq100⟩ := hpp99
        obtain ⟨rfl, lq1001⟩ := RArg.open hdq100
        refine qq s rfl (y_ldp s rfl hlq100 hmq100 (by simpa using hcq100) underlying45 rfl rfl) fun a s => ?_
        refine l_seq rfl (l_alloc (zs := [vT ([]), vI 0]) s 3202 rfl rfl rfl rfl fun b101 a w hb hK s => ?_)
        refine l_seq rfl (l_store (n := 2) (cs' := [vT (x96.Role), vI (x96.Var)]) s 3202 rfl rfl rfl rfl rfl rfl rfl rfl ?_); clear s; intro w hK s; clear hK
        apply wN
        rcases Bool.eq_false_or_eq_true (t_91) with hs102 | hs102
        ·replace hg := br_t hg hs102
         apply wL
         refine qq s rfl (yl_b (y_move s rfl) hs102) fun a s => ?_
         refine mv s rfl rfl fun a s => ?_
         refine gn s rfl fun a s => ?_
         refine gn s rfl fun a s => ?_
         refine gn s rfl fun a s => ?_
         refine gn s rfl fun a s => ?_
         refine qq s rfl (y_pick_t s rfl rfl) fun a s => ?_
         refine asg s rfl rfl fun a s => ?_
         apply wO
         refine p_inN ?_
         apply pN
         apply wL
         refine qq s rfl (y_addN (i := t_92) (j := 1) s rfl rfl (in64.2 (by omega))) fun a s => ?_
         refine mv s rfl rfl fun a s => ?_
         apply wN
         exact ⟨m4, Nat.lt_succ_self _, ⟨(true), (t_92 + 1), hg, (s.sb rfl rfl rfl)⟩⟩
        replace hg := br_n hg hs102
        apply wL
        refine qq s rfl (yl_b (y_move s rfl) hs102) fun a s => ?_
        refine mv s rfl rfl fun a s => ?_
        refine gy s rfl (y_boxField (o' := 1) s rfl underlying45 rfl rfl rfl) fun a s => ?_
        refine gy s rfl (y_loadBox1 (kk := 3202) s rfl rfl rfl underlying3 rfl) fun a s => ?_
        refine gm s rfl rfl fun a s => ?_
        refine gy s rfl (y_eql s rfl rfl) fun a s => ?_
        refine qq s rfl (y_pick_f s rfl rfl) fun a s => ?_
        refine asg s rfl rfl fun a s => ?_
        apply wO
        refine p_inN ?_
        apply pN
        apply wL
        refine qq s rfl (y_addN (i := t_92) (j := 1) s rfl rfl (in64.2 (by omega))) fun a s => ?_
        refine mv s rfl rfl fun a s => ?_
        apply wN
        exact ⟨m4, Nat.lt_succ_self _, ⟨(decide (x96.Var = x72)), (t_92 + 1), hg, (s.sb rfl rfl rfl)⟩⟩
       replace hg := br_f hg hc93
       apply wp_exit
       refine p_then ?_
       refine p_then ?_
       refine p_in ?_
       refine p_inN ?_
       apply pN
       exact ⟨(t_91), hg, (s.sb rfl rfl rfl)⟩
      clear s a; rintro a w ⟨t_83, hg, s⟩
      subst hk82
      apply wL
      refine qq s rfl (y_addN (i := t_79) (j := 1) s rfl rfl (in64.2 (by omega))) fun a s => ?_
      refine mv s rfl rfl fun a s => ?_
      apply wN
      exact ⟨m3, Nat.lt_succ_self _, ⟨(t_83), (t_79 + 1), hg, (s.sb rfl rfl rfl)⟩⟩
     replace hg := br_f hg hc80
     apply wp_exit
     refine p_then ?_
     refine p_then ?_
     refine p_in ?_
     apply pN
     exact ⟨(t_78), hg, (s.sb rfl rfl rfl)⟩
    clear s a; rintro a w ⟨t_77, hg, s⟩
    subst hk76
    apply wQ
    apply wQ
    obtain ⟨r103, hr103, hg⟩ := bind_some hg
    apply wL
    refine mv s rfl rfl fun a s => ?_
    refine mv s rfl rfl fun a s => ?_
    refine mv s rfl rfl fun a s => ?_
    refine l_seq rfl (l_call (cap := []) s rfl func23 rfl (by kernel_rfl) rfl rfl (c_r41_Has n _ _ s.lt t_' (Ap11) (cp11) (s.ft 104 rfl) x72 r103 hr103) fun v106 a w hK hp s => ?_)
    obtain rfl := hp
    refine qq s rfl (y_beq s rfl rfl underlying4) fun a s => ?_
    apply wN
    refine c_cond s rfl (fun hc108 => ?_) (fun hc108 => ?_)
    ·replace hg := br_t hg hc108
     apply wR
     refine asg s rfl rfl fun a s => ?_
     apply wN
     apply wp_ret
     refine p_thenR ?_
     refine p_inR ?_
     refine p_thenR ?_
     refine p_thenR ?_
     refine p_inR ?_
     refine p_thenR ?_
     obtain rfl := Option.some.inj hg
     refine fin1 (fn := Tryz.f7) s rfl (r_tmp s rfl) ?_
     exact rfl
    replace hg := br_n hg hc108
    apply wp_skip
    apply pN
    apply wR
    refine mv s rfl rfl fun a s => ?_
    refine qq s rfl (y_lenSlice s rfl underlying30) fun a s => ?_
    refine mv s rfl rfl fun a s => ?_
    apply wN
    apply wp_block
    refine c_loop (σ := Nat) (fun m5 a w => ∃ (t_109 : Nat), law41_ScopeTrees_L4 n t_ t_' r28 k70 x72 m5 t_109 = some r ∧ St (⟨Tryz.f7.ntmps, M, noB, w0⟩ : Ctx) [(1, sl Ap11 (t_') cp11), (2, vP b2 0), (5, sl Au35a1 (r28) cu35a1), (10, vI x72), (63, sl Au35a1 (r28) cu35a1), (64, vI ((((r28).length : Nat) : Int))), (65, vI (((t_67 : Nat) : Int))), (101, sl Au35a1 (r28) cu35a1), (102, vI ((((r28).length : Nat) : Int))), (103, vI (((t_109 : Nat) : Int)))] [(1000, Ob.box b2 [vI (t_.Top), vI (t_.Index), sl Ap03 (t_.Vars) cp03, sl Ap04 (t_.Rels) cp04, sl Ap05 (t_.Cons) cp05] 26)] [(7, tabF Tryz.prog), (101, slF Rep.str (Ap03) ((t_.Vars).length) (cp03) (t_.Vars)), (102, slF REP (Ap04) ((t_.Rels).length) (cp04) (t_.Rels)), (103, slF RQeq (Ap05) ((t_.Cons).length) (cp05) (t_.Cons)), (104, slF (Rep.num .i64) (Ap11) ((t_').length) (cp11) (t_')), (107, slF (Rep.num .i64) (Au35a1) ((r28).length) (cu35a1) (r28))] a w) (fun m5 => m5) n ⟨(0), hg, (s.sb rfl rfl rfl)⟩ ?_
    clear s a; rintro m5 a w ⟨t_109, hg, s⟩
    rcases m5 with _ | m5
    ·rw [law41_ScopeTrees_L4] at hg; cases hg
    rw [law41_ScopeTrees_L4] at hg
    apply wR
    refine qq s rfl (y_lssN (i := t_109) (j := ((r28).length)) s rfl rfl) fun a s => ?_
    apply wN
    apply wQ
    refine c_dec s rfl (fun hc110 => ?_) (fun hc110 => ?_)
    ·replace hg := br_t hg hc110
     have hmx111 := SlR.mx (s.ft 107 rfl)
     apply wp_skip
     apply pN
     apply wQ
     apply wp_block
     apply wQ
     obtain ⟨x113, hx113, hg⟩ := bind_some hg
     apply wL
     obtain ⟨p115, hep115, hpp115⟩ := SlR.elemX (s.ft 107 rfl) hx113
     refine qq s rfl (y_elem (sz := 1) (i := t_109) s rfl rfl underlying30 rfl hep115 rfl (lt_of_get hx113)) fun a s => ?_
     obtain ⟨hlq116, hmq116, csq116, hdq116, hcq116⟩ := hpp115
     obtain rfl := hdq116
     refine qq s rfl (y_ldp1 s rfl hlq116 hmq116 (hcq116 0 _ rfl) underlying3 rfl) fun a s => ?_
     refine asg s rfl rfl fun a s => ?_
     apply wN
     apply wQ
     obtain ⟨k117, hg, hk117⟩ := jn_some hg
     refine c_post (fun a w => ∃ (t_118 : Bool), k117 t_118 = some r ∧ St (⟨Tryz.f7.ntmps, M, noB, w0⟩ : Ctx) [(1, sl Ap11 (t_') cp11), (2, vP b2 0), (5, sl Au35a1 (r28) cu35a1), (10, vI x72), (63, sl Au35a1 (r28) cu35a1), (64, vI ((((r28).length : Nat) : Int))), (65, vI (((t_67 : Nat) : Int))), (101, sl Au35a1 (r28) cu35a1), (102, vI ((((r28).length : Nat) : Int))), (103, vI (((t_109 : Nat) : Int))), (125, .bool (t_118))] [(1000, Ob.box b2 [vI (t_.Top), vI (t_.Index), sl Ap03 (t_.Vars) cp03, sl Ap04 (t_.Rels) cp04, sl Ap05 (t_.Cons) cp05] 26)] [(7, tabF Tryz.prog), (101, slF Rep.str (Ap03) ((t_.Vars).length) (cp03) (t_.Vars)), (102, slF REP (Ap04) ((t_.Rels).length) (cp04) (t_.Rels)), (103, slF RQeq (Ap05) ((t_.Cons).length) (cp05) (t_.Cons)), (104, slF (Rep.num .i64) (Ap11) ((t_').length) (cp11) (t_')), (107, slF (Rep.num .i64) (Au35a1) ((r28).length) (cu35a1) (r28))] a w) ?_ ?_
     ·rcases Decidable.em (x72 ≠ x113) with hs119 | hs119
      ·have hs119e := decide_eq_true hs119
       replace hg := br_t hg hs119
       obtain ⟨r120, hr120, hg⟩ := bind_some hg
       obtain ⟨r123, hr123, hg⟩ := bind_some hg
       rcases Bool.eq_false_or_eq_true (r123) with hs126 | hs126
       ·replace hg := br_t hg hs126
        obtain ⟨r127, hr127, hg⟩ := bind_some hg
        obtain ⟨r130, hr130, hg⟩ := bind_some hg
        apply wL
        refine mv s rfl rfl fun a s => ?_
        refine mv s rfl rfl fun a s => ?_
        refine qq s rfl (yl_b (y_neq s rfl rfl) hs119e) fun a s => ?_
        refine mv s rfl rfl fun a s => ?_
        refine gy s rfl (y_loadAll (kk := 1000) s rfl rfl underlying26 rfl rfl) fun a s => ?_
        refine gm s rfl rfl fun a s => ?_
        refine gm s rfl rfl fun a s => ?_
        refine gl s rfl (l_call (cap := []) s rfl func17 rfl (by kernel_rfl) rfl rfl (c_scope_Below n _ _ s.lt t_ (Ap03) (cp03) (Ap04) (cp04) (Ap05) (cp05) (s.ft 101 rfl) (s.ft 102 rfl) (s.ft 103 rfl) t_' (Ap11) (cp11) (s.ft 104 rfl) x72 r120 hr120) fun v133 a w hK hp s => ?_)
        obtain ⟨Au134a1, cu134a1, rfl, hu134a1⟩ := hp
        replace s := s.ns 115 hu134a1
        refine gm s rfl rfl fun a s => ?_
        refine gl s rfl (l_call (cap := []) s rfl func23 rfl (by kernel_rfl) rfl rfl (c_r41_Has n _ _ s.lt r120 (Au134a1) (cu134a1) (s.ft 115 rfl) x113 r123 hr123) fun v135 a w hK hp s => ?_)
        obtain rfl := hp.trans (congrArg Value.bool hs126)
        refine qq s rfl (y_pick_t s rfl rfl) fun a s => ?_
        refine mv s rfl rfl fun a s => ?_
        refine gy s rfl (y_loadAll (kk := 1000) s rfl rfl underlying26 rfl rfl) fun a s => ?_
        refine gm s rfl rfl fun a s => ?_
        refine gm s rfl rfl fun a s => ?_
        refine gl s rfl (l_call (cap := []) s rfl func17 rfl (by kernel_rfl) rfl rfl (c_scope_Below n _ _ s.lt t_ (Ap03) (cp03) (Ap04) (cp04) (Ap05) (cp05) (s.ft 101 rfl) (s.ft 102 rfl) (s.ft 103 rfl) t_' (Ap11) (cp11) (s.ft 104 rfl) x113 r127 hr127) fun v137 a w hK hp s => ?_)
        obtain ⟨Au138a1, cu138a1, rfl, hu138a1⟩ := hp
        replace s := s.ns 116 hu138a1
        refine gm s rfl rfl fun a s => ?_
        refine gl s rfl (l_call (cap := []) s rfl func23 rfl (by kernel_rfl) rfl rfl (c_r41_Has n _ _ s.lt r127 (Au138a1) (cu138a1) (s.ft 116 rfl) x72 r130 hr130) fun v139 a w hK hp s => ?_)
        obtain rfl := hp
        refine qq s rfl (y_pick_t s rfl rfl) fun a s => ?_
        apply wN
        exact ⟨(r130), hg, (s.sb rfl rfl rfl)⟩
       replace hg := br_n hg hs126
       apply wL
       refine mv s rfl rfl fun a s => ?_
       refine mv s rfl rfl fun a s => ?_
       refine qq s rfl (yl_b (y_neq s rfl rfl) hs119e) fun a s => ?_
       refine mv s rfl rfl fun a s => ?_
       refine gy s rfl (y_loadAll (kk := 1000) s rfl rfl underlying26 rfl rfl) fun a s => ?_
       refine gm s rfl rfl fun a s => ?_
       refine gm s rfl rfl fun a s => ?_
       refine gl s rfl (l_call (cap := []) s rfl func17 rfl (by kernel_rfl) rfl rfl (c_scope_Below n _ _ s.lt t_ (Ap03) (cp03) (Ap04) (cp04) (Ap05) (cp05) (s.ft 101 rfl) (s.ft 102 rfl) (s.ft 103 rfl) t_' (Ap11) (cp11) (s.ft 104 rfl) x72 r120 hr120) fun v141 a w hK hp s => ?_)
       obtain ⟨Au142a1, cu142a1, rfl, hu142a1⟩ := hp
       replace s := s.ns 117 hu142a1
       refine gm s rfl rfl fun a s => ?_
       refine gl s rfl (l_call (cap := []) s rfl func23 rfl (by kernel_rfl) rfl rfl (c_r41_Has n _ _ s.lt r120 (Au142a1) (cu142a1) (s.ft 117 rfl) x113 r123 hr123) fun v143 a w hK hp s => ?_)
       obtain rfl := hp.trans (congrArg Value.bool hs126)
       refine qq s rfl (y_pick_t s rfl rfl) fun a s => ?_
       refine mv s rfl rfl fun a s => ?_
       refine gn s rfl fun a s => ?_
       refine gn s rfl fun a s => ?_
       refine gn s rfl fun a s => ?_
       refine gn s rfl fun a s => ?_
       refine gn s rfl fun a s => ?_
       refine gn s rfl fun a s => ?_
       refine qq s rfl (y_pick_f s rfl rfl) fun a s => ?_
       apply wN
       exact ⟨(false), hg, (s.sb rfl rfl rfl)⟩
      have hs119e := decide_eq_false hs119
      replace hg := br_f hg hs119
      apply wL
      refine mv s rfl rfl fun a s => ?_
      refine mv s rfl rfl fun a s => ?_
      refine qq s rfl (yl_b (y_neq s rfl rfl) hs119e) fun a s => ?_
      refine mv s rfl rfl fun a s => ?_
      refine gn s rfl fun a s => ?_
      refine gn s rfl fun a s => ?_
      refine gn s rfl fun a s => ?_
      refine gn s rfl fun a s => ?_
      refine gn s rfl fun a s => ?_
      refine gn s rfl fun a s => ?_
      refine qq s rfl (y_pick_f s rfl rfl) fun a s => ?_
      refine mv s rfl rfl fun a s => ?_
      refine gn s rfl fun a s => ?_
      refine gn s rfl fun a s => ?_
      refine gn s rfl fun a s => ?_
      refine gn s rfl fun a s => ?_
      refine gn s rfl fun a s => ?_
      refine gn s rfl fun a s => ?_
      refine qq s rfl (y_pick_f s rfl rfl) fun a s => ?_
      apply wN
      exact ⟨(false), hg, (s.sb rfl rfl rfl)⟩
     clear s a; rintro a w ⟨t_118, hg, s⟩
     subst hk117
     refine c_cond s rfl (fun hc145 => ?_) (fun hc145 => ?_)
     ·replace hg := br_t hg hc145
      apply wR
      refine asg s rfl rfl fun a s => ?_
      apply wN
      apply wp_ret
      refine p_inR ?_
      refine p_thenR ?_
      refine p_thenR ?_
      refine p_inR ?_
      refine p_inR ?_
      refine p_thenR ?_
      refine p_thenR ?_
      refine p_inR ?_
      refine p_thenR ?_
      obtain rfl := Option.some.inj hg
      refine fin1 (fn := Tryz.f7) s rfl (r_tmp s rfl) ?_
      exact rfl
     replace hg := br_n hg hc145
     apply wp_skip
     refine p_inN ?_
     apply pN
     apply wL
     refine qq s rfl (y_addN (i := t_109) (j := 1) s rfl rfl (in64.2 (by omega))) fun a s => ?_
     refine mv s rfl rfl fun a s => ?_
     apply wN
     exact ⟨m5, Nat.lt_succ_self _, ⟨(t_109 + 1), hg, (s.sb rfl rfl rfl)⟩⟩
    replace hg := br_f hg hc110
    apply wp_exit
    refine p_then ?_
    refine p_then ?_
    refine p_in ?_
    refine p_inN ?_
    apply pN
    exact ⟨hg, (s.sb rfl rfl rfl)⟩
   clear s a; rintro a w ⟨hg, s⟩
   subst hk70
   apply wL
   refine qq s rfl (y_addN (i := t_67) (j := 1) s rfl rfl (in64.2 (by omega))) fun a s => ?_
   refine mv s rfl rfl fun a s => ?_
   apply wN
   exact ⟨m2, Nat.lt_succ_self _, ⟨(t_67 + 1), hg, (s.sb rfl rfl rfl)⟩⟩
  replace hg := br_f hg hc68
  apply wp_exit
  refine p_then ?_
  refine p_then ?_
  refine p_in ?_
  apply pN
  exact ⟨hg, (s.sb rfl rfl rfl)⟩
 clear s a; rintro a w ⟨hg, s⟩
 subst hk66
 apply wQ
 obtain ⟨r146, hr146, hg⟩ := bind_some hg
 apply wL
 refine l_seq rfl (l_call (cap := []) s rfl func10 rfl (by kernel_rfl) rfl rfl (c_law41_exampleHolds n _ _ s.lt (s.ft 7 rfl) r146 hr146) fun v149 a w hK hp s => ?_)
 obtain rfl := hp
 refine asg s rfl rfl fun a s => ?_
 apply wN
 apply wp_ret
 obtain rfl := Option.some.inj hg
 refine fin1 (fn := Tryz.f7) s rfl (r_tmp s rfl) ?_
 exact rfl
end Go.Proofs.YtegboboemepifaaGreatDoor

