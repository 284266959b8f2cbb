/- Chapter 41: the walks, part 5 -/
import Derived.Test.YtegboboemepifaaGreatDoorW4
namespace Go.Proofs.YtegboboemepifaaGreatDoor
open Go.Gl Go.RowKit Tryz
set_option linter.unusedVariables false
set_option linter.unusedSimpArgs false
set_option maxRecDepth 4000

set_option maxHeartbeats 400000 in
theorem c_r41_Valid (n : Nat) (M : Bs) (w0 : World) (hM : ∀ b, M b → b < w0.heap.size) (t_ : MRS) (Ap03 : Option Addr) (cp03 : Nat) (Ap04 : Option Addr) (cp04 : Nat) (Ap05 : Option Addr) (cp05 : Nat) (hp03 : SlR Rep.str M w0 Ap03 (t_.Vars).length cp03 (t_.Vars)) (hp04 : SlR REP M w0 Ap04 (t_.Rels).length cp04 (t_.Rels)) (hp05 : SlR RQeq M w0 Ap05 (t_.Cons).length cp05 (t_.Cons)) (t_' : (List Int)) (Ap11 : Option Addr) (cp11 : Nat) (hp11 : SlR (Rep.num .i64) M w0 Ap11 (t_').length cp11 (t_')) (r : Int) (hg : r41_Valid n t_ t_' = some r) :
    Calls Tryz.prog 20 [.agg #[.int .i64 (t_.Top), .int .i64 (t_.Index), .slice (Ap03) ((t_.Vars).length) (cp03), .slice (Ap04) ((t_.Rels).length) (cp04), .slice (Ap05) ((t_.Cons).length) (cp05)], .slice (Ap11) ((t_').length) (cp11)].toArray w0 (Ret noB w0 fun v w => v = .int .i64 (r)) := by
 unfold r41_Valid at hg
 refine enter M noB func20 rfl rfl hM ?_
 intro a s
 replace s := s.es 101 hp03
 replace s := s.es 102 hp04
 replace s := s.es 103 hp05
 replace s := s.es 104 hp11
 apply wR
 refine l_seq rfl (l_box (zs := [vI (t_.Top), vI (t_.Index), sl Ap03 (t_.Vars) cp03, sl Ap04 (t_.Rels) cp04, sl Ap05 (t_.Cons) cp05]) s 1000 rfl rfl rfl rfl fun b2 a w hb hK s => ?_)
 refine asg s rfl rfl fun a s => ?_
 apply wN
 apply wQ
 obtain ⟨r3, hr3, hg⟩ := bind_some hg
 apply wL
 refine qq s rfl (y_loadAll (kk := 1000) s rfl rfl underlying26 rfl rfl) fun a s => ?_
 refine l_seq rfl (l_call (cap := []) s rfl func15 rfl (by kernel_rfl) rfl rfl (c_r41_Labels n _ _ s.lt t_ (Ap03) (cp03) (Ap04) (cp04) (Ap05) (cp05) (s.ft 101 rfl) (s.ft 102 rfl) (s.ft 103 rfl) r3 hr3) fun v6 a w hK hp s => ?_)
 obtain ⟨Au7a1, cu7a1, rfl, hu7a1⟩ := hp
 replace s := s.ns 106 hu7a1
 refine asg s rfl rfl fun a s => ?_
 apply wN
 apply wQ
 apply wQ
 obtain ⟨r8, hr8, hg⟩ := bind_some hg
 apply wL
 refine mv s rfl rfl fun a s => ?_
 refine qq s rfl (y_lenSlice s rfl underlying30) fun a s => ?_
 refine qq s rfl (y_loadAll (kk := 1000) s rfl rfl underlying26 rfl rfl) fun a s => ?_
 refine l_seq rfl (l_call (cap := []) s rfl func13 rfl (by kernel_rfl) rfl rfl (c_r41_Holes n _ _ s.lt t_ (Ap03) (cp03) (Ap04) (cp04) (Ap05) (cp05) (s.ft 101 rfl) (s.ft 102 rfl) (s.ft 103 rfl) r8 hr8) fun v11 a w hK hp s => ?_)
 obtain ⟨Au12a1, cu12a1, rfl, hu12a1⟩ := hp
 replace s := s.ns 108 hu12a1
 refine qq s rfl (y_lenSlice s rfl underlying30) fun a s => ?_
 refine qq s rfl (y_neqN (i := ((t_').length)) (j := ((r8).length)) s rfl rfl) fun a s => ?_
 apply wN
 refine c_dec s rfl (fun hc13 => ?_) (fun hc13 => ?_)
 ·replace hg := br_t hg hc13
  apply wR
  refine asg s rfl rfl fun a s => ?_
  apply wN
  apply wp_ret
  refine p_thenR ?_
  obtain rfl := Option.some.inj hg
  refine fin1 (fn := Tryz.f20) s rfl (r_tmp s rfl) ?_
  exact rfl
 replace hg := br_f hg hc13
 apply wp_skip
 apply pN
 apply wQ
 apply wR
 refine asg s rfl rfl fun a s => ?_
 apply wN
 obtain ⟨k14, hg, hk14⟩ := jn_some hg
 refine c_post (fun a w => k14 = some r ∧ St (⟨Tryz.f20.ntmps, M, noB, w0⟩ : Ctx) [(1, sl Ap11 (t_') cp11), (2, vP b2 0), (5, sl Au7a1 (r3) cu7a1)] [(1000, Ob.box b2 [vI (t_.Top), vI (t_.Index), sl Ap03 (t_.Vars) cp03, sl Ap04 (t_.Rels) cp04, sl Ap05 (t_.Cons) cp05] 26)] [(101, slF Rep.str (Ap03) ((t_.Vars).length) (cp03) (t_.Vars)), (102, slF REP (Ap04) ((t_.Rels).length) (cp04) (t_.Rels)), (103, slF RQeq (Ap05) ((t_.Cons).length) (cp05) (t_.Cons)), (104, slF (Rep.num .i64) (Ap11) ((t_').length) (cp11) (t_')), (106, slF (Rep.num .i64) (Au7a1) ((r3).length) (cu7a1) (r3))] a w) ?_ ?_
 ·apply wp_block
  refine c_loop (σ := Nat) (fun m1 a w => ∃ (t_15 : Nat), r41_Valid_L0 n t_' r3 k14 m1 t_15 = some r ∧ St (⟨Tryz.f20.ntmps, M, noB, w0⟩ : Ctx) [(1, sl Ap11 (t_') cp11), (2, vP b2 0), (5, sl Au7a1 (r3) cu7a1), (6, vI (((t_15 : Nat) : Int)))] [(1000, Ob.box b2 [vI (t_.Top), vI (t_.Index), sl Ap03 (t_.Vars) cp03, sl Ap04 (t_.Rels) cp04, sl Ap05 (t_.Cons) cp05] 26)] [(101, slF Rep.str (Ap03) ((t_.Vars).length) (cp03) (t_.Vars)), (102, slF REP (Ap04) ((t_.Rels).length) (cp04) (t_.Rels)), (103, slF RQeq (Ap05) ((t_.Cons).length) (cp05) (t_.Cons)), (104, slF (Rep.num .i64) (Ap11) ((t_').length) (cp11) (t_')), (106, slF (Rep.num .i64) (Au7a1) ((r3).length) (cu7a1) (r3))] a w) (fun m1 => m1) n ⟨(0), hg, (s.sb rfl rfl rfl)⟩ ?_
  clear s a; rintro m1 a w ⟨t_15, hg, s⟩
  rcases m1 with _ | m1
  ·rw [r41_Valid_L0] at hg; cases hg
  rw [r41_Valid_L0] at hg
  apply wQ
  apply wR
  refine mv s rfl rfl fun a s => ?_
  refine mv s rfl rfl fun a s => ?_
  refine qq s rfl (y_lenSlice s rfl underlying30) fun a s => ?_
  refine qq s rfl (y_lssN (i := t_15) (j := ((t_').length)) s rfl rfl) fun a s => ?_
  apply wN
  refine c_dec s rfl (fun hc16 => ?_) (fun hc16 => ?_)
  ·replace hg := br_t hg hc16
   have hmx17 := SlR.mx (s.ft 104 rfl)
   apply wp_skip
   apply pN
   apply wQ
   apply wp_block
   apply wQ
   obtain ⟨k18, hg, hk18⟩ := jn_some hg
   refine c_post (fun a w => ∃ (t_19 : Bool), k18 t_19 = some r ∧ St (⟨Tryz.f20.ntmps, M, noB, w0⟩ : Ctx) [(1, sl Ap11 (t_') cp11), (2, vP b2 0), (5, sl Au7a1 (r3) cu7a1), (6, vI (((t_15 : Nat) : Int))), (39, .bool (t_19))] [(1000, Ob.box b2 [vI (t_.Top), vI (t_.Index), sl Ap03 (t_.Vars) cp03, sl Ap04 (t_.Rels) cp04, sl Ap05 (t_.Cons) cp05] 26)] [(101, slF Rep.str (Ap03) ((t_.Vars).length) (cp03) (t_.Vars)), (102, slF REP (Ap04) ((t_.Rels).length) (cp04) (t_.Rels)), (103, slF RQeq (Ap05) ((t_.Cons).length) (cp05) (t_.Cons)), (104, slF (Rep.num .i64) (Ap11) ((t_').length) (cp11) (t_')), (106, slF (Rep.num .i64) (Au7a1) ((r3).length) (cu7a1) (r3))] a w) ?_ ?_
   ·obtain ⟨x21, hx21, hg⟩ := bind_some hg
    obtain ⟨r23, hr23, hg⟩ := bind_some hg
    rcases Bool.eq_false_or_eq_true (!(r23)) with hs26 | hs26
    ·replace hg := br_t hg hs26
     refine d_steps s [] rfl ?_; clear s; intro wr hZ s; have hR := s.wd; have hE := Ext.init hR 0
     refine n_q 0 0 s hR rfl (by kernel_rfl) (by kernel_rfl) (by kernel_rfl) rfl rfl rfl (y_move s rfl) fun a s => ?_
     refine n_q 1 0 s hR rfl (by kernel_rfl) (by kernel_rfl) (by kernel_rfl) rfl rfl rfl (y_move s rfl) fun a s => ?_
     refine n_q 2 0 s hR rfl (by kernel_rfl) (by kernel_rfl) (by kernel_rfl) rfl rfl rfl (y_move s rfl) fun a s => ?_
     obtain ⟨p27, hep27, hpp27⟩ := SlR.elemX (s.ft 104 rfl) hx21
     refine n_q 3 0 s hR rfl (by kernel_rfl) (by kernel_rfl) (by kernel_rfl) rfl rfl rfl (y_elem (sz := 1) (i := t_15) s rfl rfl underlying30 rfl hep27 rfl (lt_of_get hx21)) fun a s => ?_
     obtain ⟨hlq28, hmq28, csq28, hdq28, hcq28⟩ := hpp27
     obtain rfl := hdq28
     refine n_q 4 0 s hR rfl (by kernel_rfl) (by kernel_rfl) (by kernel_rfl) rfl rfl rfl (y_ldp1 s rfl hlq28 hmq28 (hcq28 0 _ rfl) underlying3 rfl) fun a s => ?_
     refine n_1 5 s (by kernel_rfl) rfl rfl (l_call (cap := []) s rfl func23 rfl (by kernel_rfl) rfl rfl (c_r41_Has n _ _ s.lt r3 (Au7a1) (cu7a1) (s.ft 106 rfl) x21 r23 hr23) fun v29 a w hK hp s => ?_)
     replace hE := hE.grow hK; replace hZ := Nat.le_trans hZ hK.size; refine ⟨fun g _ h => h.grow hK, ?_⟩; clear hK
     obtain rfl := hp
     refine n_1 6 s (by kernel_rfl) rfl rfl (l_quiet s rfl rfl (yl_b (y_not s rfl) hs26) fun a s => ?_); refine ⟨fun g _ h => h, ?_⟩
     refine n_1 7 s (by kernel_rfl) rfl rfl (l_quiet s rfl rfl (y_move s rfl) fun a s => ?_); refine ⟨fun g _ h => h, ?_⟩
     refine n_qlpass 8 s hE rfl (by kernel_rfl) (by kernel_rfl) (by kernel_rfl) rfl ⟨_, _, _, rfl, rfl, rfl, rfl⟩ rfl fun a s => ?_
     refine n_qlpass 9 s hE rfl (by kernel_rfl) (by kernel_rfl) (by kernel_rfl) rfl ⟨_, _, _, rfl, rfl, rfl, rfl⟩ rfl fun a s => ?_
     refine n_qlpass 10 s hE rfl (by kernel_rfl) (by kernel_rfl) (by kernel_rfl) rfl ⟨_, _, _, rfl, rfl, rfl, rfl⟩ rfl fun a s => ?_
     refine n_qlpass 11 s hE rfl (by kernel_rfl) (by kernel_rfl) (by kernel_rfl) rfl ⟨_, _, _, rfl, rfl, rfl, rfl⟩ rfl fun a s => ?_
     refine n_pass 12 s (by kernel_rfl) rfl ⟨_, _, _, rfl, rfl, rfl, rfl⟩ rfl rfl fun a s => ?_
     refine n_pass 13 s (by kernel_rfl) rfl ⟨_, _, _, rfl, rfl, rfl, rfl⟩ rfl rfl fun a s => ?_
     refine n_pass 14 s (by kernel_rfl) rfl ⟨_, _, _, rfl, rfl, rfl, rfl⟩ rfl rfl fun a s => ?_
     refine n_pass 15 s (by kernel_rfl) rfl ⟨_, _, _, rfl, rfl, rfl, rfl⟩ rfl rfl fun a s => ?_
     refine n_1 16 s (by kernel_rfl) rfl rfl (l_quiet s rfl rfl (y_pick_t s rfl rfl) fun a s => ?_); refine ⟨fun g _ h => h, ?_⟩
     refine n_end (by kernel_rfl) ?_; clear hR hZ hE
     apply pN
     exact ⟨(true), hg, (s.sb rfl rfl rfl)⟩
    replace hg := br_n hg hs26
    obtain ⟨hk31, hg⟩ := chk_some hg
    obtain ⟨r34, hr34, hg⟩ := bind_some hg
    refine d_steps s [] rfl ?_; clear s; intro wr hZ s; have hR := s.wd; have hE := Ext.init hR 0
    refine n_q 0 0 s hR rfl (by kernel_rfl) (by kernel_rfl) (by kernel_rfl) rfl rfl rfl (y_move s rfl) fun a s => ?_
    refine n_q 1 0 s hR rfl (by kernel_rfl) (by kernel_rfl) (by kernel_rfl) rfl rfl rfl (y_move s rfl) fun a s => ?_
    refine n_q 2 0 s hR rfl (by kernel_rfl) (by kernel_rfl) (by kernel_rfl) rfl rfl rfl (y_move s rfl) fun a s => ?_
    obtain ⟨p37, hep37, hpp37⟩ := SlR.elemX (s.ft 104 rfl) hx21
    refine n_q 3 0 s hR rfl (by kernel_rfl) (by kernel_rfl) (by kernel_rfl) rfl rfl rfl (y_elem (sz := 1) (i := t_15) s rfl rfl underlying30 rfl hep37 rfl (lt_of_get hx21)) fun a s => ?_
    obtain ⟨hlq38, hmq38, csq38, hdq38, hcq38⟩ := hpp37
    obtain rfl := hdq38
    refine n_q 4 0 s hR rfl (by kernel_rfl) (by kernel_rfl) (by kernel_rfl) rfl rfl rfl (y_ldp1 s rfl hlq38 hmq38 (hcq38 0 _ rfl) underlying3 rfl) fun a s => ?_
    refine n_1 5 s (by kernel_rfl) rfl rfl (l_call (cap := []) s rfl func23 rfl (by kernel_rfl) rfl rfl (c_r41_Has n _ _ s.lt r3 (Au7a1) (cu7a1) (s.ft 106 rfl) x21 r23 hr23) fun v39 a w hK hp s => ?_)
    replace hE := hE.grow hK; replace hZ := Nat.le_trans hZ hK.size; refine ⟨fun g _ h => h.grow hK, ?_⟩; clear hK
    obtain rfl := hp
    refine n_1 6 s (by kernel_rfl) rfl rfl (l_quiet s rfl rfl (yl_b (y_not s rfl) hs26) fun a s => ?_); refine ⟨fun g _ h => h, ?_⟩
    refine n_1 7 s (by kernel_rfl) rfl rfl (l_quiet s rfl rfl (y_move s rfl) fun a s => ?_); refine ⟨fun g _ h => h, ?_⟩
    refine n_ql 8 s hE rfl (by kernel_rfl) (by kernel_rfl) (by kernel_rfl) rfl ⟨_, _, _, rfl, rfl, rfl, rfl⟩ rfl (fun w' s => y_move s rfl) fun a s => ?_
    refine n_ql 9 s hE rfl (by kernel_rfl) (by kernel_rfl) (by kernel_rfl) rfl ⟨_, _, _, rfl, rfl, rfl, rfl⟩ rfl (fun w' s => y_move s rfl) fun a s => ?_
    refine n_ql 11 s hE rfl (by kernel_rfl) (by kernel_rfl) (by kernel_rfl) rfl ⟨_, _, _, rfl, rfl, rfl, rfl⟩ rfl (fun w' s => y_move s rfl) fun a s => ?_
    refine n_ql 12 s hE rfl (by kernel_rfl) (by kernel_rfl) (by kernel_rfl) rfl ⟨_, _, _, rfl, rfl, rfl, rfl⟩ rfl (fun w' s => y_move s rfl) fun a s => ?_
    obtain ⟨p41, hep41, hpp41⟩ := SlR.elemX (s.ft 104 rfl) hx21
    refine n_ql 13 s hE rfl (by kernel_rfl) (by kernel_rfl) (by kernel_rfl) rfl ⟨_, _, _, rfl, rfl, rfl, rfl⟩ rfl (fun w' s => y_elem (sz := 1) (i := t_15) s rfl rfl underlying30 rfl hep41 rfl (lt_of_get hx21)) fun a s => ?_
    refine n_2 10 14 s (by kernel_rfl) rfl ⟨_, _, _, rfl, rfl, rfl, rfl⟩ rfl ⟨_, _, _, rfl, rfl, rfl, rfl⟩ ?_ ?_
    ·have hcap110 := (s.ft 104 rfl).cap
     refine l_quiet s rfl rfl (y_cutH (xs := t_') (sz := 1) (i := t_15) s rfl rfl underlying30 rfl rfl hk31 hcap110) fun a s => ?_; refine ⟨fun g _ h => h, ?_⟩
     replace s := s.add 110 (slF (Rep.num .i64) (Ap11) (((t_').take t_15).length) (cp11) ((t_').take t_15)) (SlR.cutH (s.ft 104 rfl) t_15 hk31)
     obtain ⟨hlq42, hmq42, csq42, hdq42, hcq42⟩ := hpp41
     obtain rfl := hdq42
     refine n_1 14 s (by kernel_rfl) rfl ⟨_, _, _, rfl, rfl, rfl, rfl⟩ (l_quiet s rfl rfl (y_ldp1 s rfl hlq42 hmq42 (hcq42 0 _ rfl) underlying3 rfl) fun a s => ?_); refine ⟨fun g _ h => h, ?_⟩
     refine n_1 15 s (by kernel_rfl) rfl ⟨_, _, _, rfl, rfl, rfl, rfl⟩ (l_call (cap := []) s rfl func23 rfl (by kernel_rfl) rfl rfl (c_r41_Has n _ _ s.lt ((t_').take t_15) (Ap11) (cp11) (s.ft 110 rfl) x21 r34 hr34) fun v43 a w hK hp s => ?_)
     replace hE := hE.grow hK; replace hZ := Nat.le_trans hZ hK.size; refine ⟨fun g _ h => h.grow hK, ?_⟩; clear hK
     obtain rfl := hp
     refine n_1 16 s (by kernel_rfl) rfl rfl (l_quiet s rfl rfl (y_pick_f s rfl rfl) fun a s => ?_); refine ⟨fun g _ h => h, ?_⟩
     refine n_end (by kernel_rfl) ?_; clear hR hZ hE
     apply pN
     exact ⟨(r34), hg, (s.sb rfl rfl rfl)⟩
    ·obtain ⟨hlq45, hmq45, csq45, hdq45, hcq45⟩ := hpp41
     obtain rfl := hdq45
     refine l_quiet s rfl rfl (y_ldp1 s rfl hlq45 hmq45 (hcq45 0 _ rfl) underlying3 rfl) fun a s => ?_; refine ⟨fun g _ h => h, ?_⟩
     have hcap111 := (s.ft 104 rfl).cap
     refine n_1 10 s (by kernel_rfl) rfl ⟨_, _, _, rfl, rfl, rfl, rfl⟩ (l_quiet s rfl rfl (y_cutH (xs := t_') (sz := 1) (i := t_15) s rfl rfl underlying30 rfl rfl hk31 hcap111) fun a s => ?_); refine ⟨fun g _ h => h, ?_⟩
     replace s := s.add 111 (slF (Rep.num .i64) (Ap11) (((t_').take t_15).length) (cp11) ((t_').take t_15)) (SlR.cutH (s.ft 104 rfl) t_15 hk31)
     refine n_1 15 s (by kernel_rfl) rfl ⟨_, _, _, rfl, rfl, rfl, rfl⟩ (l_call (cap := []) s rfl func23 rfl (by kernel_rfl) rfl rfl (c_r41_Has n _ _ s.lt ((t_').take t_15) (Ap11) (cp11) (s.ft 111 rfl) x21 r34 hr34) fun v46 a w hK hp s => ?_)
     replace hE := hE.grow hK; replace hZ := Nat.le_trans hZ hK.size; refine ⟨fun g _ h => h.grow hK, ?_⟩; clear hK
     obtain rfl := hp
     refine n_1 16 s (by kernel_rfl) rfl rfl (l_quiet s rfl rfl (y_pick_f s rfl rfl) fun a s => ?_); refine ⟨fun g _ h => h, ?_⟩
     refine n_end (by kernel_rfl) ?_; clear hR hZ hE
     apply pN
     exact ⟨(r34), hg, (s.sb rfl rfl rfl)⟩
   clear s a; rintro a w ⟨t_19, hg, s⟩
   subst hk18
   refine c_cond s rfl (fun hc48 => ?_) (fun hc48 => ?_)
   ·replace hg := br_t hg hc48
    apply wR
    refine asg s rfl rfl fun a s => ?_
    apply wN
    apply wp_ret
    refine p_inR ?_
    refine p_thenR ?_
    refine p_thenR ?_
    refine p_inR ?_
    refine p_thenR ?_
    obtain rfl := Option.some.inj hg
    refine fin1 (fn := Tryz.f20) s rfl (r_tmp s rfl) ?_
    exact rfl
   replace hg := br_n hg hc48
   apply wp_skip
   refine p_inN ?_
   apply pN
   apply wL
   refine mv s rfl rfl fun a s => ?_
   refine qq s rfl (y_addN (i := t_15) (j := 1) s rfl rfl (in64.2 (by omega))) fun a s => ?_
   refine asg s rfl rfl fun a s => ?_
   apply wN
   exact ⟨m1, Nat.lt_succ_self _, ⟨(t_15 + 1), hg, (s.sb rfl rfl rfl)⟩⟩
  replace hg := br_f hg hc16
  apply wp_exit
  refine p_then ?_
  refine p_then ?_
  refine p_in ?_
  apply pN
  exact ⟨hg, (s.sb rfl rfl rfl)⟩
 clear s a; rintro a w ⟨hg, s⟩
 subst hk14
 apply wQ
 apply wQ
 obtain ⟨r49, hr49, hg⟩ := bind_some hg
 apply wL
 refine qq s rfl (y_loadAll (kk := 1000) s rfl rfl underlying26 rfl rfl) fun a s => ?_
 refine mv s rfl rfl fun a s => ?_
 refine l_seq rfl (l_call (cap := []) s rfl func39 rfl (by kernel_rfl) rfl rfl (c_r41_tree n _ _ s.lt t_ (Ap03) (cp03) (Ap04) (cp04) (Ap05) (cp05) (s.ft 101 rfl) (s.ft 102 rfl) (s.ft 103 rfl) t_' (Ap11) (cp11) (s.ft 104 rfl) r49 hr49) fun v52 a w hK hp s => ?_)
 obtain rfl := hp
 refine qq s rfl (y_not s rfl) fun a s => ?_
 apply wN
 refine c_cond s rfl (fun hc54 => ?_) (fun hc54 => ?_)
 ·replace hg := br_t hg hc54
  apply wR
  refine asg s rfl rfl fun a s => ?_
  apply wN
  apply wp_ret
  refine p_thenR ?_
  obtain rfl := Option.some.inj hg
  refine fin1 (fn := Tryz.f20) s rfl (r_tmp s rfl) ?_
  exact rfl
 replace hg := br_n hg hc54
 apply wp_skip
 apply pN
 apply wQ
 apply wR
 refine asg s rfl rfl fun a s => ?_
 apply wN
 obtain ⟨k55, hg, hk55⟩ := jn_some hg
 refine c_post (fun a w => k55 = some r ∧ St (⟨Tryz.f20.ntmps, M, noB, w0⟩ : Ctx) [(1, sl Ap11 (t_') cp11), (2, vP b2 0)] [(1000, Ob.box b2 [vI (t_.Top), vI (t_.Index), sl Ap03 (t_.Vars) cp03, sl Ap04 (t_.Rels) cp04, sl Ap05 (t_.Cons) cp05] 26)] [(101, slF Rep.str (Ap03) ((t_.Vars).length) (cp03) (t_.Vars)), (102, slF REP (Ap04) ((t_.Rels).length) (cp04) (t_.Rels)), (103, slF RQeq (Ap05) ((t_.Cons).length) (cp05) (t_.Cons)), (104, slF (Rep.num .i64) (Ap11) ((t_').length) (cp11) (t_'))] a w) ?_ ?_
 ·apply wp_block
  refine c_loop (σ := Nat) (fun m2 a w => ∃ (t_56 : Nat), r41_Valid_L1 n t_ t_' r3 k55 m2 t_56 = some r ∧ St (⟨Tryz.f20.ntmps, M, noB, w0⟩ : Ctx) [(1, sl Ap11 (t_') cp11), (2, vP b2 0), (5, sl Au7a1 (r3) cu7a1), (7, vI (((t_56 : Nat) : Int)))] [(1000, Ob.box b2 [vI (t_.Top), vI (t_.Index), sl Ap03 (t_.Vars) cp03, sl Ap04 (t_.Rels) cp04, sl Ap05 (t_.Cons) cp05] 26)] [(101, slF Rep.str (Ap03) ((t_.Vars).length) (cp03) (t_.Vars)), (102, slF REP (Ap04) ((t_.Rels).length) (cp04) (t_.Rels)), (103, slF RQeq (Ap05) ((t_.Cons).length) (cp05) (t_.Cons)), (104, slF (Rep.num .i64) (Ap11) ((t_').length) (cp11) (t_')), (106, slF (Rep.num .i64) (Au7a1) ((r3).length) (cu7a1) (r3))] a w) (fun m2 => m2) n ⟨(0), hg, (s.sb rfl rfl rfl)⟩ ?_
  clear s a; rintro m2 a w ⟨t_56, hg, s⟩
  rcases m2 with _ | m2
  ·rw [r41_Valid_L1] at hg; cases hg
  rw [r41_Valid_L1] at hg
  apply wQ
  apply wR
  refine mv s rfl rfl fun a s => ?_
  refine qq s rfl (y_boxField (o' := 4) s rfl underlying26 rfl rfl rfl) fun a s => ?_
  refine qq s rfl (y_loadBox1 (kk := 1000) s rfl rfl rfl underlying24 rfl) fun a s => ?_
  refine qq s rfl (y_lenSlice s rfl underlying24) fun a s => ?_
  refine qq s rfl (y_lssN (i := t_56) (j := ((t_.Cons).length)) s rfl rfl) fun a s => ?_
  apply wN
  refine c_dec s rfl (fun hc57 => ?_) (fun hc57 => ?_)
  ·replace hg := br_t hg hc57
   have hmx58 := SlR.mx (s.ft 103 rfl)
   apply wp_skip
   apply pN
   apply wQ
   apply wp_block
   apply wQ
   obtain ⟨x60, hx60, hg⟩ := bind_some hg
   obtain ⟨hk64, hg⟩ := chk_some hg
   obtain ⟨r65, hr65, hg⟩ := bind_some hg
   refine d_plan s [] [(0, some 1000), (1, some 0), (2, some 0), (3, some 1000), (4, some 0), (5, some 0), (6, some 0), (7, some 0), (8, some 0), (9, some 1000), (10, some 0), (11, some 0), (12, some 0), (13, some 0), (14, some 0), (15, some 0), (16, some 0), (17, none), (18, none)] rfl (by kernel_rfl) (by kernel_rfl) rfl ?_; clear s; intro wr hZ s; have hR := s.wd
   refine qt s hR rfl (y_loadAll (kk := 1000) s rfl rfl underlying26 rfl rfl) fun a s => ?_
   refine qt s hR rfl (y_move s rfl) fun a s => ?_
   refine qt s hR rfl (y_boxField (o' := 4) s rfl underlying26 rfl rfl rfl) fun a s => ?_
   refine qt s hR rfl (y_loadBox1 (kk := 1000) s rfl rfl rfl underlying24 rfl) fun a s => ?_
   refine qt s hR rfl (y_move s rfl) fun a s => ?_
   obtain ⟨p68, hep68, hpp68⟩ := SlR.elemX (s.ft 103 rfl) hx60
   refine qt s hR rfl (y_elem (sz := 2) (i := t_56) s rfl rfl underlying24 rfl hep68 rfl (lt_of_get hx60)) fun a s => ?_
   refine qt s hR rfl (y_ptrField (o' := 0) s rfl underlying48 rfl rfl rfl) fun a s => ?_
   obtain ⟨hlq69, hmq69, csq69, hdq69, hcq69⟩ := hpp68
   obtain rfl := RQeq.open hdq69
   refine qt s hR rfl (y_ldp1 s rfl hlq69 hmq69 (hcq69 0 _ rfl) underlying3 rfl) fun a s => ?_
   refine qt s hR rfl (y_boxField (o' := 4) s rfl underlying26 rfl rfl rfl) fun a s => ?_
   refine qt s hR rfl (y_loadBox1 (kk := 1000) s rfl rfl rfl underlying24 rfl) fun a s => ?_
   refine qt s hR rfl (y_move s rfl) fun a s => ?_
   obtain ⟨p70, hep70, hpp70⟩ := SlR.elemX (s.ft 103 rfl) hx60
   refine qt s hR rfl (y_elem (sz := 2) (i := t_56) s rfl rfl underlying24 rfl hep70 rfl (lt_of_get hx60)) fun a s => ?_
   refine qt s hR rfl (y_ptrField (o' := 1) s rfl underlying48 rfl rfl rfl) fun a s => ?_
   obtain ⟨hlq71, hmq71, csq71, hdq71, hcq71⟩ := hpp70
   obtain rfl := RQeq.open hdq71
   refine qt s hR rfl (y_ldp1 s rfl hlq71 hmq71 (hcq71 1 _ rfl) underlying3 rfl) fun a s => ?_
   refine qt s hR rfl (y_move s rfl) fun a s => ?_
   refine qt s hR rfl (y_lenSlice s rfl underlying30) fun a s => ?_
   refine qt s hR rfl (y_addN (i := ((r3).length)) (j := 1) s rfl rfl (in64.2 (by omega))) fun a s => ?_
   refine l_take s rfl rfl (l_call (cap := []) s rfl func40 rfl (by kernel_rfl) rfl rfl (c_r41_reaches n _ _ s.lt t_ (Ap03) (cp03) (Ap04) (cp04) (Ap05) (cp05) (s.ft 101 rfl) (s.ft 102 rfl) (s.ft 103 rfl) t_' (Ap11) (cp11) (s.ft 104 rfl) x60.High x60.Low (((r3).length + 1 : Nat) : Int) r65 hr65) fun v72 a w hK hp s => ?_)
   replace hZ := Nat.le_trans hZ hK.size; refine ⟨fun g _ h => h.grow hK, ?_⟩; clear hK
   obtain rfl := hp
   refine l_take s rfl rfl (l_quiet s rfl rfl (y_not s rfl) fun a s => ?_); refine ⟨fun g _ h => h, ?_⟩
   clear hR hZ
   apply pN
   refine c_cond s rfl (fun hc74 => ?_) (fun hc74 => ?_)
   ·replace hg := br_t hg hc74
    apply wR
    refine asg s rfl rfl fun a s => ?_
    apply wN
    apply wp_ret
    refine p_inR ?_
    refine p_thenR ?_
    refine p_thenR ?_
    refine p_inR ?_
    refine p_thenR ?_
    obtain rfl := Option.some.inj hg
    refine fin1 (fn := Tryz.f20) s rfl (r_tmp s rfl) ?_
    exact rfl
   replace hg := br_n hg hc74
   apply wp_skip
   refine p_inN ?_
   apply pN
   apply wL
   refine mv s rfl rfl fun a s => ?_
   refine qq s rfl (y_addN (i := t_56) (j := 1) s rfl rfl (in64.2 (by omega))) fun a s => ?_
   refine asg s rfl rfl fun a s => ?_
   apply wN
   exact ⟨m2, Nat.lt_succ_self _, ⟨(t_56 + 1), hg, (s.sb rfl rfl rfl)⟩⟩
  replace hg := br_f hg hc57
  apply wp_exit
  refine p_then ?_
  refine p_then ?_
  refine p_in ?_
  apply pN
  exact ⟨hg, (s.sb rfl rfl rfl)⟩
 clear s a; rintro a w ⟨hg, s⟩
 subst hk55
 apply wQ
 apply wR
 refine asg s rfl rfl fun a s => ?_
 apply wN
 apply wp_block
 refine c_loop (σ := Nat) (fun m3 a w => ∃ (t_75 : Nat), r41_Valid_L2 n t_ t_' m3 t_75 = some r ∧ St (⟨Tryz.f20.ntmps, M, noB, w0⟩ : Ctx) [(1, sl Ap11 (t_') cp11), (2, vP b2 0), (8, vI (((t_75 : Nat) : Int)))] [(1000, Ob.box b2 [vI (t_.Top), vI (t_.Index), sl Ap03 (t_.Vars) cp03, sl Ap04 (t_.Rels) cp04, sl Ap05 (t_.Cons) cp05] 26)] [(101, slF Rep.str (Ap03) ((t_.Vars).length) (cp03) (t_.Vars)), (102, slF REP (Ap04) ((t_.Rels).length) (cp04) (t_.Rels)), (103, slF RQeq (Ap05) ((t_.Cons).length) (cp05) (t_.Cons)), (104, slF (Rep.num .i64) (Ap11) ((t_').length) (cp11) (t_'))] a w) (fun m3 => m3) n ⟨(0), hg, (s.sb rfl rfl rfl)⟩ ?_
 clear s a; rintro m3 a w ⟨t_75, hg, s⟩
 rcases m3 with _ | m3
 ·rw [r41_Valid_L2] at hg; cases hg
 rw [r41_Valid_L2] at hg
 apply wQ
 apply wR
 refine mv s rfl rfl fun a s => ?_
 refine qq s rfl (y_boxField (o' := 3) s rfl underlying26 rfl rfl rfl) fun a s => ?_
 refine qq s rfl (y_loadBox1 (kk := 1000) s rfl rfl rfl underlying23 rfl) fun a s => ?_
 refine qq s rfl (y_lenSlice s rfl underlying23) fun a s => ?_
 refine qq s rfl (y_lssN (i := t_75) (j := ((t_.Rels).length)) s rfl rfl) fun a s => ?_
 apply wN
 refine c_dec s rfl (fun hc76 => ?_) (fun hc76 => ?_)
 ·replace hg := br_t hg hc76
  have hmx77 := SlR.mx (s.ft 102 rfl)
  apply wp_skip
  apply pN
  apply wQ
  apply wp_block
  apply wQ
  obtain ⟨k78, hg, hk78⟩ := jn_some hg
  refine c_post (fun a w => ∃ (t_79 : Bool), k78 t_79 = some r ∧ St (⟨Tryz.f20.ntmps, M, noB, w0⟩ : Ctx) [(1, sl Ap11 (t_') cp11), (2, vP b2 0), (8, vI (((t_75 : Nat) : Int))), (89, .bool (t_79))] [(1000, Ob.box b2 [vI (t_.Top), vI (t_.Index), sl Ap03 (t_.Vars) cp03, sl Ap04 (t_.Rels) cp04, sl Ap05 (t_.Cons) cp05] 26)] [(101, slF Rep.str (Ap03) ((t_.Vars).length) (cp03) (t_.Vars)), (102, slF REP (Ap04) ((t_.Rels).length) (cp04) (t_.Rels)), (103, slF RQeq (Ap05) ((t_.Cons).length) (cp05) (t_.Cons)), (104, slF (Rep.num .i64) (Ap11) ((t_').length) (cp11) (t_'))] a w) ?_ ?_
  ·obtain ⟨x81, hx81, hg⟩ := bind_some hg
   obtain ⟨r83, hr83, hg⟩ := bind_some hg
   rcases Bool.eq_false_or_eq_true (r83) with hs86 | hs86
   ·replace hg := br_t hg hs86
    obtain ⟨r87, hr87, hg⟩ := bind_some hg
    apply wL
    refine qq s rfl (y_boxField (o' := 3) s rfl underlying26 rfl rfl rfl) fun a s => ?_
    refine qq s rfl (y_loadBox1 (kk := 1000) s rfl rfl rfl underlying23 rfl) fun a s => ?_
    refine mv s rfl rfl fun a s => ?_
    obtain ⟨p90, hep90, hpp90⟩ := SlR.elemX (s.ft 102 rfl) hx81
    refine qq s rfl (y_elem (sz := 3) (i := t_75) s rfl rfl underlying23 rfl hep90 rfl (lt_of_get hx81)) fun a s => ?_
    obtain ⟨hlq91, hmq91, csq91, hdq91, hcq91⟩ := hpp90
    obtain ⟨Aq913, cq913, rfl, lq911, hq913⟩ := REP.open hdq91
    replace s := s.ns 113 hq913
    refine qq s rfl (y_ldp s rfl hlq91 hmq91 (by simpa using hcq91) underlying43 rfl rfl) fun a s => ?_
    refine l_seq rfl (l_call (cap := []) s rfl func41 rfl (by kernel_rfl) rfl rfl (c_r41_quantifier n _ _ s.lt x81 (Aq913) (cq913) (by omega) (s.ft 113 rfl) r83 hr83) fun v92 a w hK hp s => ?_)
    obtain rfl := hp.trans (congrArg Value.bool hs86)
    refine mv s rfl rfl fun a s => ?_
    refine gy s rfl (y_loadAll (kk := 1000) s rfl rfl underlying26 rfl rfl) fun a s => ?_
    refine gm s rfl rfl fun a s => ?_
    refine gm s rfl rfl fun a s => ?_
    refine gl s rfl (l_call (cap := []) s rfl func42 rfl (by kernel_rfl) rfl rfl (c_r41_binds n _ _ s.lt t_ (Ap03) (cp03) (Ap04) (cp04) (Ap05) (cp05) (s.ft 101 rfl) (s.ft 102 rfl) (s.ft 103 rfl) t_' (Ap11) (cp11) (s.ft 104 rfl) ((t_75 : Nat) : Int) r87 hr87) fun v94 a w hK hp s => ?_)
    obtain rfl := hp
    refine gy s rfl (y_not s rfl) fun a s => ?_
    refine qq s rfl (y_pick_t s rfl rfl) fun a s => ?_
    apply wN
    exact ⟨(!(r87)), hg, (s.sb rfl rfl rfl)⟩
   replace hg := br_n hg hs86
   apply wL
   refine qq s rfl (y_boxField (o' := 3) s rfl underlying26 rfl rfl rfl) fun a s => ?_
   refine qq s rfl (y_loadBox1 (kk := 1000) s rfl rfl rfl underlying23 rfl) fun a s => ?_
   refine mv s rfl rfl fun a s => ?_
   obtain ⟨p96, hep96, hpp96⟩ := SlR.elemX (s.ft 102 rfl) hx81
   refine qq s rfl (y_elem (sz := 3) (i := t_75) s rfl rfl underlying23 rfl hep96 rfl (lt_of_get hx81)) fun a s => ?_
   obtain ⟨hlq97, hmq97, csq97, hdq97, hcq97⟩ := hpp96
   obtain ⟨Aq973, cq973, rfl, lq971, hq973⟩ := REP.open hdq97
   replace s := s.ns 114 hq973
   refine qq s rfl (y_ldp s rfl hlq97 hmq97 (by simpa using hcq97) underlying43 rfl rfl) fun a s => ?_
   refine l_seq rfl (l_call (cap := []) s rfl func41 rfl (by kernel_rfl) rfl rfl (c_r41_quantifier n _ _ s.lt x81 (Aq973) (cq973) (by omega) (s.ft 114 rfl) r83 hr83) fun v98 a w hK hp s => ?_)
   obtain rfl := hp.trans (congrArg Value.bool hs86)
   refine mv s rfl rfl fun a s => ?_
   refine gn s rfl fun a s => ?_
   refine gn s rfl fun a s => ?_
   refine gn s rfl fun a s => ?_
   refine gn s rfl fun a s => ?_
   refine gn s rfl fun a s => ?_
   refine qq s rfl (y_pick_f s rfl rfl) fun a s => ?_
   apply wN
   exact ⟨(false), hg, (s.sb rfl rfl rfl)⟩
  clear s a; rintro a w ⟨t_79, hg, s⟩
  subst hk78
  refine c_cond s rfl (fun hc100 => ?_) (fun hc100 => ?_)
  ·replace hg := br_t hg hc100
   apply wR
   refine asg s rfl rfl fun a s => ?_
   apply wN
   apply wp_ret
   refine p_inR ?_
   refine p_thenR ?_
   refine p_thenR ?_
   refine p_inR ?_
   refine p_thenR ?_
   obtain rfl := Option.some.inj hg
   refine fin1 (fn := Tryz.f20) s rfl (r_tmp s rfl) ?_
   exact rfl
  replace hg := br_n hg hc100
  apply wp_skip
  refine p_inN ?_
  apply pN
  apply wL
  refine mv s rfl rfl fun a s => ?_
  refine qq s rfl (y_addN (i := t_75) (j := 1) s rfl rfl (in64.2 (by omega))) fun a s => ?_
  refine asg s rfl rfl fun a s => ?_
  apply wN
  exact ⟨m3, Nat.lt_succ_self _, ⟨(t_75 + 1), hg, (s.sb rfl rfl rfl)⟩⟩
 replace hg := br_f hg hc76
 apply wp_exit
 refine p_then ?_
 refine p_then ?_
 refine p_in ?_
 apply pN
 apply wR
 refine asg s rfl rfl fun a s => ?_
 apply wN
 apply wp_ret
 obtain rfl := Option.some.inj hg
 refine fin1 (fn := Tryz.f20) s rfl (r_tmp s rfl) ?_
 exact rfl
set_option maxHeartbeats 400000 in
theorem c_r01_Decimal (n : Nat) (M : Bs) (w0 : World) (hM : ∀ b, M b → b < w0.heap.size) (n_ : Int) (r : (List UInt8)) (hg : r01_Decimal n n_ = some r) :
    Calls Tryz.prog 61 [.int .i64 (n_)].toArray w0 (Ret noB w0 fun v w => v = .string (bs (r)) ∧ ((r).length ≤ 9223372036854775807)) := by
 unfold r01_Decimal at hg
 refine enter M noB func61 rfl rfl hM ?_
 intro a s
 apply wR
 refine asg s rfl rfl fun a s => ?_
 apply wN
 apply wQ
 apply wR
 refine mv s rfl rfl fun a s => ?_
 refine qq s rfl (y_eql s rfl rfl) fun a s => ?_
 apply wN
 refine c_dec s rfl (fun hc1 => ?_) (fun hc1 => ?_)
 ·replace hg := br_t hg hc1
  apply wR
  refine asg s rfl rfl fun a s => ?_
  apply wN
  apply wp_ret
  refine p_thenR ?_
  obtain rfl := Option.some.inj hg
  refine fin1 (fn := Tryz.f61) s rfl (r_tmp s rfl) ?_
  exact ⟨rfl, (by first | omega | (rw [List.length_append]; omega) | (simp only [List.length_append]; omega) | (simp only [List.length_append, List.length_take, List.length_drop, List.length_cons, List.length_nil]; omega))⟩
 replace hg := br_f hg hc1
 apply wp_skip
 apply pN
 apply wQ
 obtain ⟨hk2, hg⟩ := chk_some hg
 apply wL
 refine mv s rfl rfl fun a s => ?_
 refine qq s rfl (y_conv s rfl underlying3 underlying106 (inu64.2 (by omega))) fun a s => ?_
 refine asg s rfl rfl fun a s => ?_
 apply wN
 apply wQ
 apply wR
 refine mv s rfl rfl fun a s => ?_
 refine qq s rfl (y_lss s rfl rfl) fun a s => ?_
 apply wN
 obtain ⟨k3, hg, hk3⟩ := jn_some hg
 refine c_post (fun a w => ∃ (u_4 : Int), k3 u_4 = some r ∧ St (⟨Tryz.f61.ntmps, M, noB, w0⟩ : Ctx) [(0, vI n_), (3, .int .u64 (u_4))] [] [] a w) ?_ ?_
 ·refine c_dec s rfl (fun hc5 => ?_) (fun hc5 => ?_)
  ·replace hg := br_t hg hc5
   apply wL
   refine mv s rfl rfl fun a s => ?_
   refine qq s rfl (y_wneg s rfl) fun a s => ?_
   refine asg s rfl rfl fun a s => ?_
   apply wN
   exact ⟨(IntKind.u64.wrap (-(n_))), hg, (s.sb rfl rfl rfl)⟩
  replace hg := br_f hg hc5
  apply wp_skip
  apply pN
  exact ⟨(n_), hg, (s.sb rfl rfl rfl)⟩
 clear s a; rintro a w ⟨u_4, hg, s⟩
 subst hk3
 apply wR
 refine asg s rfl rfl fun a s => ?_
 apply wN
 apply wQ
 obtain ⟨k6, hg, hk6⟩ := jn_some hg
 refine c_post (fun a w => ∃ (s_7 : (List UInt8)), k6 s_7 = some r ∧ ((s_7).length ≤ 9223372036854775807) ∧ St (⟨Tryz.f61.ntmps, M, noB, w0⟩ : Ctx) [(0, vI n_), (4, vT s_7)] [] [] a w) ?_ ?_
 ·apply wp_block
  refine c_loop (σ := Nat) (fun m1 a w => ∃ (u_8 : Int) (s_9 : (List UInt8)), r01_Decimal_L0 n k6 m1 u_8 s_9 = some r ∧ ((s_9).length ≤ 9223372036854775807) ∧ St (⟨Tryz.f61.ntmps, M, noB, w0⟩ : Ctx) [(0, vI n_), (3, .int .u64 (u_8)), (4, vT s_9)] [] [] a w) (fun m1 => m1) n ⟨(u_4), ([]), hg, (by first | omega | (rw [List.length_append]; omega) | (simp only [List.length_append]; omega) | (simp only [List.length_append, List.length_take, List.length_drop, List.length_cons, List.length_nil]; omega)), (s.sb rfl rfl rfl)⟩ ?_
  clear s a; rintro m1 a w ⟨u_8, s_9, hg, ls_9, s⟩
  rcases m1 with _ | m1
  ·rw [r01_Decimal_L0] at hg; cases hg
  rw [r01_Decimal_L0] at hg
  apply wQ
  apply wR
  refine mv s rfl rfl fun a s => ?_
  refine qq s rfl (y_gtr s rfl rfl) fun a s => ?_
  apply wN
  refine c_dec s rfl (fun hc10 => ?_) (fun hc10 => ?_)
  ·replace hg := br_t hg hc10
   apply wp_skip
   apply pN
   apply wp_block
   apply wQ
   obtain ⟨hk12, hg⟩ := chk_some hg
   apply wL
   refine mv s rfl rfl fun a s => ?_
   refine qq s rfl (y_rem s rfl rfl (by decide)) fun a s => ?_
   refine qq s rfl (y_wadd s rfl rfl) fun a s => ?_
   refine qq s rfl (y_convU8 s rfl underlying106 underlying5) fun a s => ?_
   refine l_seq rfl (l_buildDense (sz := 1) s 1804 rfl rfl rfl underlying32 rfl rfl rfl rfl rfl rfl rfl fun b13 a w hbb13 hK s => ?_)
   clear hbb13
   replace s := s.add 102 (rdF Rep.u8 (cellsOfL [.int .u8 ((((toU8 (IntKind.u64.wrap (48 + ((u_8).tmod 10)))).toNat : Nat) : Int))]) ([toU8 (IntKind.u64.wrap (48 + ((u_8).tmod 10)))])) (RdAll.cons (by exact rfl) (RdAll.nil _ _ _))
   have hbl := row_len1 (s.wd.holds 1804 _ rfl) (s.ft 102 rfl)
   refine qq s rfl (y_bytesRow (kk := 1804) s rfl rfl (s.ft 102 rfl) underlying32 underlying5 underlying9) fun a s => ?_
   refine mv s rfl rfl fun a s => ?_
   refine qq s rfl (y_concat s rfl rfl hk12) fun a s => ?_
   refine asg s rfl rfl fun a s => ?_
   apply wN
   apply wL
   refine mv s rfl rfl fun a s => ?_
   refine qq s rfl (y_quo s rfl rfl (by decide)) fun a s => ?_
   refine asg s rfl rfl fun a s => ?_
   apply wO
   refine p_inN ?_
   apply pN
   exact ⟨m1, Nat.lt_succ_self _, ⟨(IntKind.u64.wrap ((u_8).tdiv 10)), ([toU8 (IntKind.u64.wrap (48 + ((u_8).tmod 10)))] ++ s_9), hg, (by first | omega | (rw [List.length_append]; omega) | (simp only [List.length_append]; omega) | (simp only [List.length_append, List.length_take, List.length_drop, List.length_cons, List.length_nil]; omega)), (s.sb rfl rfl rfl)⟩⟩
  replace hg := br_f hg hc10
  apply wp_exit
  refine p_then ?_
  refine p_then ?_
  refine p_in ?_
  apply pN
  exact ⟨(s_9), hg, (by omega), (s.sb rfl rfl rfl)⟩
 clear s a; rintro a w ⟨s_7, hg, ls_7, s⟩
 subst hk6
 apply wQ
 apply wR
 refine mv s rfl rfl fun a s => ?_
 refine qq s rfl (y_lss s rfl rfl) fun a s => ?_
 apply wN
 refine c_dec s rfl (fun hc14 => ?_) (fun hc14 => ?_)
 ·replace hg := br_t hg hc14
  apply wQ
  obtain ⟨hk15, hg⟩ := chk_some hg
  apply wL
  refine mv s rfl rfl fun a s => ?_
  refine qq s rfl (y_concat s rfl rfl hk15) fun a s => ?_
  refine asg s rfl rfl fun a s => ?_
  apply wN
  apply wp_ret
  refine p_thenR ?_
  obtain rfl := Option.some.inj hg
  refine fin1 (fn := Tryz.f61) s rfl (r_tmp s rfl) ?_
  exact ⟨rfl, (by first | omega | (rw [List.length_append]; omega) | (simp only [List.length_append]; omega) | (simp only [List.length_append, List.length_take, List.length_drop, List.length_cons, List.length_nil]; omega))⟩
 replace hg := br_f hg hc14
 apply wp_skip
 apply pN
 apply wR
 refine mv s rfl rfl fun a s => ?_
 refine asg s rfl rfl fun a s => ?_
 apply wN
 apply wp_ret
 obtain rfl := Option.some.inj hg
 refine fin1 (fn := Tryz.f61) s rfl (r_tmp s rfl) ?_
 exact ⟨rfl, (by omega)⟩
set_option maxHeartbeats 400000 in
theorem c_r41_form (n : Nat) : ∀ (M : Bs) (w0 : World) (hM : ∀ b, M b → b < w0.heap.size) (t_ : MRS) (Ap03 : Option Addr) (cp03 : Nat) (Ap04 : Option Addr) (cp04 : Nat) (Ap05 : Option Addr) (cp05 : Nat) (hp03 : SlR Rep.str M w0 Ap03 (t_.Vars).length cp03 (t_.Vars)) (hp04 : SlR REP M w0 Ap04 (t_.Rels).length cp04 (t_.Rels)) (hp05 : SlR RQeq M w0 Ap05 (t_.Cons).length cp05 (t_.Cons)) (t_' : (List Int)) (Ap11 : Option Addr) (cp11 : Nat) (hp11 : SlR (Rep.num .i64) M w0 Ap11 (t_').length cp11 (t_')) (t_'' : Int) (r : (List UInt8)) (hg : r41_form n t_ t_' t_'' = some r),
    Calls Tryz.prog 44 [.agg #[.int .i64 (t_.Top), .int .i64 (t_.Index), .slice (Ap03) ((t_.Vars).length) (cp03), .slice (Ap04) ((t_.Rels).length) (cp04), .slice (Ap05) ((t_.Cons).length) (cp05)], .slice (Ap11) ((t_').length) (cp11), .int .i64 (t_'')].toArray w0 (Ret noB w0 fun v w => v = .string (bs (r)) ∧ ((r).length ≤ 9223372036854775807)) := by
 induction n with
 | zero => intros; rename_i hg; rw [r41_form] at hg; cases hg
 | succ n c_self =>
 intro M w0 hM t_ Ap03 cp03 Ap04 cp04 Ap05 cp05 hp03 hp04 hp05 t_' Ap11 cp11 hp11 t_'' r hg
 rw [r41_form] at hg
 refine enter M noB func44 rfl rfl hM ?_
 intro a s
 replace s := s.es 101 hp03
 replace s := s.es 102 hp04
 replace s := s.es 103 hp05
 replace s := s.es 104 hp11
 apply wR
 refine l_seq rfl (l_box (zs := [vI (t_.Top), vI (t_.Index), sl Ap03 (t_.Vars) cp03, sl Ap04 (t_.Rels) cp04, sl Ap05 (t_.Cons) cp05]) s 1000 rfl rfl rfl rfl fun b2 a w hb hK s => ?_)
 refine asg s rfl rfl fun a s => ?_
 apply wN
 apply wR
 refine asg s rfl rfl fun a s => ?_
 apply wN
 apply wQ
 apply wR
 refine asg s rfl rfl fun a s => ?_
 apply wN
 apply wp_block
 refine c_loop (σ := Nat) (fun m1 a w => ∃ (t_3 : (List UInt8)) (t_4 : Nat), r41_form_L0 n t_ t_' t_'' (r41_form n) m1 t_3 t_4 = some r ∧ ((t_3).length ≤ 9223372036854775807) ∧ St (⟨Tryz.f44.ntmps, M, noB, w0⟩ : Ctx) [(1, sl Ap11 (t_') cp11), (2, vI (t_'')), (3, vP b2 0), (7, vT t_3), (8, vI (((t_4 : Nat) : Int)))] [(1000, Ob.box b2 [vI (t_.Top), vI (t_.Index), sl Ap03 (t_.Vars) cp03, sl Ap04 (t_.Rels) cp04, sl Ap05 (t_.Cons) cp05] 26)] [(101, slF Rep.str (Ap03) ((t_.Vars).length) (cp03) (t_.Vars)), (102, slF REP (Ap04) ((t_.Rels).length) (cp04) (t_.Rels)), (103, slF RQeq (Ap05) ((t_.Cons).length) (cp05) (t_.Cons)), (104, slF (Rep.num .i64) (Ap11) ((t_').length) (cp11) (t_'))] a w) (fun m1 => m1) n ⟨([]), (0), hg, (by first | omega | (rw [List.length_append]; omega) | (simp only [List.length_append]; omega) | (simp only [List.length_append, List.length_take, List.length_drop, List.length_cons, List.length_nil]; omega)), (s.sb rfl rfl rfl)⟩ ?_
 clear s a; rintro m1 a w ⟨t_3, t_4, hg, lt_3, s⟩
 rcases m1 with _ | m1
 ·rw [r41_form_L0] at hg; cases hg
 rw [r41_form_L0] at hg
 apply wQ
 apply wR
 refine mv s rfl rfl fun a s => ?_
 refine qq s rfl (y_boxField (o' := 3) s rfl underlying26 rfl rfl rfl) fun a s => ?_
 refine qq s rfl (y_loadBox1 (kk := 1000) s rfl rfl rfl underlying23 rfl) fun a s => ?_
 refine qq s rfl (y_lenSlice s rfl underlying23) fun a s => ?_
 refine qq s rfl (y_lssN (i := t_4) (j := ((t_.Rels).length)) s rfl rfl) fun a s => ?_
 apply wN
 refine c_dec s rfl (fun hc5 => ?_) (fun hc5 => ?_)
 ·replace hg := br_t hg hc5
  have hmx6 := SlR.mx (s.ft 102 rfl)
  apply wp_skip
  apply pN
  apply wQ
  apply wp_block
  apply wQ
  obtain ⟨x8, hx8, hg⟩ := bind_some hg
  apply wL
  refine qq s rfl (y_boxField (o' := 3) s rfl underlying26 rfl rfl rfl) fun a s => ?_
  refine qq s rfl (y_loadBox1 (kk := 1000) s rfl rfl rfl underlying23 rfl) fun a s => ?_
  refine mv s rfl rfl fun a s => ?_
  obtain ⟨p11, hep11, hpp11⟩ := SlR.elemX (s.ft 102 rfl) hx8
  refine qq s rfl (y_elem (sz := 3) (i := t_4) s rfl rfl underlying23 rfl hep11 rfl (lt_of_get hx8)) fun a s => ?_
  obtain ⟨hlq12, hmq12, csq12, hdq12, hcq12⟩ := hpp11
  obtain ⟨Aq123, cq123, rfl, lq121, hq123⟩ := REP.open hdq12
  replace s := s.ns 106 hq123
  refine qq s rfl (y_ldp s rfl hlq12 hmq12 (by simpa using hcq12) underlying43 rfl rfl) fun a s => ?_
  refine l_seq rfl (l_alloc (zs := [vT ([]), vI 0, .slice (none) (0) (0)]) s 1505 rfl rfl rfl rfl fun b13 a w hb hK s => ?_)
  refine l_seq rfl (l_store (n := 3) (cs' := [vT (x8.Pred), vI (x8.Label), sl Aq123 (x8.Args) cq123]) s 1505 rfl rfl rfl rfl rfl rfl rfl rfl ?_); clear s; intro w hK s; clear hK
  apply wN
  apply wQ
  apply wR
  refine qq s rfl (y_boxField (o' := 1) s rfl underlying43 rfl rfl rfl) fun a s => ?_
  refine qq s rfl (y_loadBox1 (kk := 1505) s rfl rfl rfl underlying3 rfl) fun a s => ?_
  refine mv s rfl rfl fun a s => ?_
  refine qq s rfl (y_neq s rfl rfl) fun a s => ?_
  apply wN
  refine c_dec s rfl (fun hc14 => ?_) (fun hc14 => ?_)
  ·replace hg := br_t hg hc14
   apply wp_exit
   refine p_then ?_
   refine p_in ?_
   apply pN
   apply wL
   refine mv s rfl rfl fun a s => ?_
   refine qq s rfl (y_addN (i := t_4) (j := 1) s rfl rfl (in64.2 (by omega))) fun a s => ?_
   refine asg s rfl rfl fun a s => ?_
   apply wN
   exact ⟨m1, Nat.lt_succ_self _, ⟨(t_3), (t_4 + 1), hg, (by omega), (s.sb rfl rfl rfl)⟩⟩
  replace hg := br_f hg hc14
  apply wp_skip
  apply pN
  apply wQ
  apply wR
  refine mv s rfl rfl fun a s => ?_
  refine qq s rfl (y_sne s rfl rfl) fun a s => ?_
  apply wN
  obtain ⟨k15, hg, hk15⟩ := jn_some hg
  refine c_post (fun a w => ∃ (t_16 : (List UInt8)), k15 t_16 = some r ∧ ((t_16).length ≤ 9223372036854775807) ∧ St (⟨Tryz.f44.ntmps, M, noB, w0⟩ : Ctx) [(1, sl Ap11 (t_') cp11), (2, vI (t_'')), (3, vP b2 0), (7, vT t_16), (8, vI (((t_4 : Nat) : Int))), (9, vP b13 0)] [(1000, Ob.box b2 [vI (t_.Top), vI (t_.Index), sl Ap03 (t_.Vars) cp03, sl Ap04 (t_.Rels) cp04, sl Ap05 (t_.Cons) cp05] 26), (1505, Ob.box b13 [vT (x8.Pred), vI (x8.Label), sl Aq123 (x8.Args) cq123] 43)] [(101, slF Rep.str (Ap03) ((t_.Vars).length) (cp03) (t_.Vars)), (102, slF REP (Ap04) ((t_.Rels).length) (cp04) (t_.Rels)), (103, slF RQeq (Ap05) ((t_.Cons).length) (cp05) (t_.Cons)), (104, slF (Rep.num .i64) (Ap11) ((t_').length) (cp11) (t_')), (106, slF RArg (Aq123) ((x8.Args).length) (cq123) (x8.Args))] a w) ?_ ?_
  ·refine c_dec s rfl (fun hc17 => ?_) (fun hc17 => ?_)
   ·replace hg := br_t hg hc17
    obtain ⟨hk18, hg⟩ := chk_some hg
    apply wL
    refine mv s rfl rfl fun a s => ?_
    refine qq s rfl (y_concat s rfl rfl hk18) fun a s => ?_
    refine asg s rfl rfl fun a s => ?_
    apply wN
    exact ⟨(t_3 ++ [32, 38, 32]), hg, (by first | omega | (rw [List.length_append]; omega) | (simp only [List.length_append]; omega) | (simp only [List.length_append, List.length_take, List.length_drop, List.length_cons, List.length_nil]; omega)), (s.sb rfl rfl rfl)⟩
   replace hg := br_f hg hc17
   apply wp_skip
   apply pN
   exact ⟨(t_3), hg, (by omega), (s.sb rfl rfl rfl)⟩
  clear s a; rintro a w ⟨t_16, hg, lt_16, s⟩
  subst hk15
  apply wQ
  obtain ⟨hk19, hg⟩ := chk_some hg
  obtain ⟨hk20, hg⟩ := chk_some hg
  apply wL
  refine mv s rfl rfl fun a s => ?_
  refine qq s rfl (y_boxField (o' := 0) s rfl underlying43 rfl rfl rfl) fun a s => ?_
  refine qq s rfl (y_loadBox1 (kk := 1505) s rfl rfl rfl underlying9 rfl) fun a s => ?_
  refine qq s rfl (y_concat s rfl rfl hk19) fun a s => ?_
  refine qq s rfl (y_concat s rfl rfl hk20) fun a s => ?_
  refine asg s rfl rfl fun a s => ?_
  apply wN
  apply wQ
  apply wR
  refine asg s rfl rfl fun a s => ?_
  apply wN
  obtain ⟨k21, hg, hk21⟩ := jn_some hg
  refine c_post (fun a w => ∃ (t_22 : (List UInt8)), k21 t_22 = some r ∧ ((t_22).length ≤ 9223372036854775807) ∧ St (⟨Tryz.f44.ntmps, M, noB, w0⟩ : Ctx) [(1, sl Ap11 (t_') cp11), (2, vI (t_'')), (3, vP b2 0), (7, vT t_22), (8, vI (((t_4 : Nat) : Int)))] [(1000, Ob.box b2 [vI (t_.Top), vI (t_.Index), sl Ap03 (t_.Vars) cp03, sl Ap04 (t_.Rels) cp04, sl Ap05 (t_.Cons) cp05] 26)] [(101, slF Rep.str (Ap03) ((t_.Vars).length) (cp03) (t_.Vars)), (102, slF REP (Ap04) ((t_.Rels).length) (cp04) (t_.Rels)), (103, slF RQeq (Ap05) ((t_.Cons).length) (cp05) (t_.Cons)), (104, slF (Rep.num .i64) (Ap11) ((t_').length) (cp11) (t_'))] a w) ?_ ?_
  ·apply wp_block
   refine c_loop (σ := Nat) (fun m2 a w => ∃ (t_23 : (List UInt8)) (t_24 : Nat), r41_form_L1 n t_ t_' (r41_form n) x8 k21 m2 t_23 t_24 = some r ∧ ((t_23).length ≤ 9223372036854775807) ∧ St (⟨Tryz.f44.ntmps, M, noB, w0⟩ : Ctx) [(1, sl Ap11 (t_') cp11), (2, vI (t_'')), (3, vP b2 0), (7, vT t_23), (8, vI (((t_4 : Nat) : Int))), (9, vP b13 0), (10, vI (((t_24 : Nat) : Int)))] [(1000, Ob.box b2 [vI (t_.Top), vI (t_.Index), sl Ap03 (t_.Vars) cp03, sl Ap04 (t_.Rels) cp04, sl Ap05 (t_.Cons) cp05] 26), (1505, Ob.box b13 [vT (x8.Pred), vI (x8.Label), sl Aq123 (x8.Args) cq123] 43)] [(101, slF Rep.str (Ap03) ((t_.Vars).length) (cp03) (t_.Vars)), (102, slF REP (Ap04) ((t_.Rels).length) (cp04) (t_.Rels)), (103, slF RQeq (Ap05) ((t_.Cons).length) (cp05) (t_.Cons)), (104, slF (Rep.num .i64) (Ap11) ((t_').length) (cp11) (t_')), (106, slF RArg (Aq123) ((x8.Args).length) (cq123) (x8.Args))] a w) (fun m2 => m2) n ⟨((t_16 ++ x8.Pred) ++ [40]), (0), hg, (by first | omega | (rw [List.length_append]; omega) | (simp only [List.length_append]; omega) | (simp only [List.length_append, List.length_take, List.length_drop, List.length_cons, List.length_nil]; omega)), (s.sb rfl rfl rfl)⟩ ?_
   clear s a; rintro m2 a w ⟨t_23, t_24, hg, lt_23, s⟩
   rcases m2 with _ | m2
   ·rw [r41_form_L1] at hg; cases hg
   rw [r41_form_L1] at hg
   apply wQ
   apply wR
   refine mv s rfl rfl fun a s => ?_
   refine qq s rfl (y_boxField (o' := 2) s rfl underlying43 rfl rfl rfl) fun a s => ?_
   refine qq s rfl (y_loadBox1 (kk := 1505) s rfl rfl rfl underlying41 rfl) fun a s => ?_
   refine qq s rfl (y_lenSlice s rfl underlying41) fun a s => ?_
   refine qq s rfl (y_lssN (i := t_24) (j := ((x8.Args).length)) s rfl rfl) fun a s => ?_
   apply wN
   refine c_dec s rfl (fun hc25 => ?_) (fun hc25 => ?_)
   ·replace hg := br_t hg hc25
    have hmx26 := SlR.mx (s.ft 106 rfl)
    apply wp_skip
    apply pN
    apply wQ
    apply wp_block
    apply wQ
    apply wR
    refine mv s rfl rfl fun a s => ?_
    refine qq s rfl (y_gtrN (i := t_24) (j := 0) s rfl rfl) fun a s => ?_
    apply wN
    obtain ⟨k27, hg, hk27⟩ := jn_some hg
    refine c_post (fun a w => ∃ (t_28 : (List UInt8)), k27 t_28 = some r ∧ ((t_28).length ≤ 9223372036854775807) ∧ St (⟨Tryz.f44.ntmps, M, noB, w0⟩ : Ctx) [(1, sl Ap11 (t_') cp11), (2, vI (t_'')), (3, vP b2 0), (7, vT t_28), (8, vI (((t_4 : Nat) : Int))), (9, vP b13 0), (10, vI (((t_24 : Nat) : Int)))] [(1000, Ob.box b2 [vI (t_.Top), vI (t_.Index), sl Ap03 (t_.Vars) cp03, sl Ap04 (t_.Rels) cp04, sl Ap05 (t_.Cons) cp05] 26), (1505, Ob.box b13 [vT (x8.Pred), vI (x8.Label), sl Aq123 (x8.Args) cq123] 43)] [(101, slF Rep.str (Ap03) ((t_.Vars).length) (cp03) (t_.Vars)), (102, slF REP (Ap04) ((t_.Rels).length) (cp04) (t_.Rels)), (103, slF RQeq (Ap05) ((t_.Cons).length) (cp05) (t_.Cons)), (104, slF (Rep.num .i64) (Ap11) ((t_').length) (cp11) (t_')), (106, slF RArg (Aq123) ((x8.Args).length) (cq123) (x8.Args))] a w) ?_ ?_
    ·refine c_dec s rfl (fun hc29 => ?_) (fun hc29 => ?_)
     ·replace hg := br_t hg hc29
      obtain ⟨hk30, hg⟩ := chk_some hg
      apply wL
      refine mv s rfl rfl fun a s => ?_
      refine qq s rfl (y_concat s rfl rfl hk30) fun a s => ?_
      refine asg s rfl rfl fun a s => ?_
      apply wN
      exact ⟨(t_23 ++ [44, 32]), hg, (by first | omega | (rw [List.length_append]; omega) | (simp only [List.length_append]; omega) | (simp only [List.length_append, List.length_take, List.length_drop, List.length_cons, List.length_nil]; omega)), (s.sb rfl rfl rfl)⟩
     replace hg := br_f hg hc29
     apply wp_skip
     apply pN
     exact ⟨(t_23), hg, (by omega), (s.sb rfl rfl rfl)⟩
    clear s a; rintro a w ⟨t_28, hg, lt_28, s⟩
    subst hk27
    apply wQ
    obtain ⟨x32, hx32, hg⟩ := bind_some hg
    obtain ⟨hk34, hg⟩ := chk_some hg
    obtain ⟨hk35, hg⟩ := chk_some hg
    apply wL
    refine mv s rfl rfl fun a s => ?_
    refine qq s rfl (y_boxField (o' := 2) s rfl underlying43 rfl rfl rfl) fun a s => ?_
    refine qq s rfl (y_loadBox1 (kk := 1505) s rfl rfl rfl underlying41 rfl) fun a s => ?_
    refine mv s rfl rfl fun a s => ?_
    obtain ⟨p36, hep36, hpp36⟩ := SlR.elemX (s.ft 106 rfl) hx32
    refine qq s rfl (y_elem (sz := 2) (i := t_24) s rfl rfl underlying41 rfl hep36 rfl (lt_of_get hx32)) fun a s => ?_
    refine qq s rfl (y_ptrField (o' := 0) s rfl underlying45 rfl rfl rfl) fun a s => ?_
    obtain ⟨hlq37, hmq37, csq37, hdq37, hcq37⟩ := hpp36
    obtain ⟨rfl, lq371⟩ := RArg.open hdq37
    refine qq s rfl (y_ldp1 s rfl hlq37 hmq37 (hcq37 0 _ rfl) underlying9 rfl) fun a s => ?_
    refine qq s rfl (y_concat s rfl rfl hk34) fun a s => ?_
    refine qq s rfl (y_concat s rfl rfl hk35) fun a s => ?_
    refine asg s rfl rfl fun a s => ?_
    apply wN
    apply wQ
    obtain ⟨r40, hr40, hg⟩ := bind_some hg
    refine d_plan s [] [(0, some 1000), (1, some 0), (2, some 0), (3, some 1505), (4, some 0), (5, some 0), (6, some 0), (7, some 0), (8, none), (9, none)] rfl (by kernel_rfl) (by kernel_rfl) rfl ?_; clear s; intro wr hZ s; have hR := s.wd
    refine qt s hR rfl (y_loadAll (kk := 1000) s rfl rfl underlying26 rfl rfl) fun a s => ?_
    refine qt s hR rfl (y_move s rfl) fun a s => ?_
    refine qt s hR rfl (y_boxField (o' := 2) s rfl underlying43 rfl rfl rfl) fun a s => ?_
    refine qt s hR rfl (y_loadBox1 (kk := 1505) s rfl rfl rfl underlying41 rfl) fun a s => ?_
    refine qt s hR rfl (y_move s rfl) fun a s => ?_
    obtain ⟨p43, hep43, hpp43⟩ := SlR.elemX (s.ft 106 rfl) hx32
    refine qt s hR rfl (y_elem (sz := 2) (i := t_24) s rfl rfl underlying41 rfl hep43 rfl (lt_of_get hx32)) fun a s => ?_
    refine qt s hR rfl (y_ptrField (o' := 1) s rfl underlying45 rfl rfl rfl) fun a s => ?_
    obtain ⟨hlq44, hmq44, csq44, hdq44, hcq44⟩ := hpp43
    obtain ⟨rfl, lq441⟩ := RArg.open hdq44
    refine qt s hR rfl (y_ldp1 s rfl hlq44 hmq44 (hcq44 1 _ rfl) underlying3 rfl) fun a s => ?_
    refine l_take s rfl rfl (l_call (cap := []) s rfl func45 rfl (by kernel_rfl) rfl rfl (c_r41_at n _ _ s.lt t_ (Ap03) (cp03) (Ap04) (cp04) (Ap05) (cp05) (s.ft 101 rfl) (s.ft 102 rfl) (s.ft 103 rfl) t_' (Ap11) (cp11) (s.ft 104 rfl) x32.Var r40 hr40) fun v45 a w hK hp s => ?_)
    replace hZ := Nat.le_trans hZ hK.size; refine ⟨fun g _ h => h.grow hK, ?_⟩; clear hK
    obtain rfl := hp
    refine l_take s rfl rfl (l_quiet s rfl rfl (y_assign s rfl) fun a s => ?_); refine ⟨fun g _ h => h, ?_⟩
    clear hR hZ
    apply pN
    apply wR
    refine mv s rfl rfl fun a s => ?_
    refine qq s rfl (y_geq s rfl rfl) fun a s => ?_
    apply wN
    refine c_dec s rfl (fun hc47 => ?_) (fun hc47 => ?_)
    ·replace hg := br_t hg hc47
     obtain ⟨r48, hr48, hg⟩ := bind_some hg
     obtain ⟨hk51, hg⟩ := chk_some hg
     apply wL
     refine mv s rfl rfl fun a s => ?_
     refine qq s rfl (y_loadAll (kk := 1000) s rfl rfl underlying26 rfl rfl) fun a s => ?_
     refine mv s rfl rfl fun a s => ?_
     refine mv s rfl rfl fun a s => ?_
     refine l_seq rfl (l_call (cap := []) s rfl func44 rfl (by kernel_rfl) rfl rfl (c_self _ _ s.lt t_ (Ap03) (cp03) (Ap04) (cp04) (Ap05) (cp05) (s.ft 101 rfl) (s.ft 102 rfl) (s.ft 103 rfl) t_' (Ap11) (cp11) (s.ft 104 rfl) r40 r48 hr48) fun v52 a w hK hp s => ?_)
     obtain ⟨rfl, lu53a1⟩ := hp
     refine qq s rfl (y_concat s rfl rfl hk51) fun a s => ?_
     refine asg s rfl rfl fun a s => ?_
     apply wO
     refine p_inN ?_
     apply pN
     apply wL
     refine mv s rfl rfl fun a s => ?_
     refine qq s rfl (y_addN (i := t_24) (j := 1) s rfl rfl (in64.2 (by omega))) fun a s => ?_
     refine asg s rfl rfl fun a s => ?_
     apply wN
     exact ⟨m2, Nat.lt_succ_self _, ⟨(((t_28 ++ x32.Role) ++ [32]) ++ r48), (t_24 + 1), hg, (by first | omega | (rw [List.length_append]; omega) | (simp only [List.length_append]; omega) | (simp only [List.length_append, List.length_take, List.length_drop, List.length_cons, List.length_nil]; omega)), (s.sb rfl rfl rfl)⟩⟩
    replace hg := br_f hg hc47
    obtain ⟨x57, hx57, hg⟩ := bind_some hg
    obtain ⟨hk59, hg⟩ := chk_some hg
    obtain ⟨r62, hr62, hg⟩ := bind_some hg
    obtain ⟨hk65, hg⟩ := chk_some hg
    refine d_plan s [] [(0, some 0), (1, some 0), (2, some 1000), (3, some 0), (4, some 1505), (5, some 0), (6, some 0), (7, some 0), (8, some 0), (9, some 0), (10, some 0), (11, some 0), (12, some 0), (13, some 1505), (14, some 0), (15, some 0), (16, some 0), (17, some 0), (18, none), (19, none), (20, none)] rfl (by kernel_rfl) (by kernel_rfl) rfl ?_; clear s; intro wr hZ s; have hR := s.wd
    refine qt s hR rfl (y_move s rfl) fun a s => ?_
    refine qt s hR rfl (y_boxField (o' := 2) s rfl underlying26 rfl rfl rfl) fun a s => ?_
    refine qt s hR rfl (y_loadBox1 (kk := 1000) s rfl rfl rfl underlying22 rfl) fun a s => ?_
    refine qt s hR rfl (y_boxField (o' := 2) s rfl underlying43 rfl rfl rfl) fun a s => ?_
    refine qt s hR rfl (y_loadBox1 (kk := 1505) s rfl rfl rfl underlying41 rfl) fun a s => ?_
    refine qt s hR rfl (y_move s rfl) fun a s => ?_
    obtain ⟨p66, hep66, hpp66⟩ := SlR.elemX (s.ft 106 rfl) hx32
    refine qt s hR rfl (y_elem (sz := 2) (i := t_24) s rfl rfl underlying41 rfl hep66 rfl (lt_of_get hx32)) fun a s => ?_
    refine qt s hR rfl (y_ptrField (o' := 1) s rfl underlying45 rfl rfl rfl) fun a s => ?_
    obtain ⟨hlq67, hmq67, csq67, hdq67, hcq67⟩ := hpp66
    obtain ⟨rfl, lq671⟩ := RArg.open hdq67
    refine qt s hR rfl (y_ldp1 s rfl hlq67 hmq67 (hcq67 1 _ rfl) underlying3 rfl) fun a s => ?_
    obtain ⟨p68, hep68, hpp68⟩ := SlR.elemX (s.ft 101 rfl) (ix_some hx57).1
    refine qt s hR rfl (y_elem (sz := 1) (i := ((x32.Var).toNat)) s rfl rfl underlying22 rfl hep68 (ix_some hx57).2.1 (lt_of_get (ix_some hx57).1)) fun a s => ?_
    obtain ⟨hlq69, hmq69, csq69, hdq69, hcq69⟩ := hpp68
    obtain ⟨rfl, lq691⟩ := hdq69
    refine qt s hR rfl (y_ldp1 s rfl hlq69 hmq69 (hcq69 0 _ rfl) underlying9 rfl) fun a s => ?_
    refine qt s hR rfl (y_concat s rfl rfl hk59) fun a s => ?_
    refine qt s hR rfl (y_boxField (o' := 2) s rfl underlying43 rfl rfl rfl) fun a s => ?_
    refine qt s hR rfl (y_loadBox1 (kk := 1505) s rfl rfl rfl underlying41 rfl) fun a s => ?_
    refine qt s hR rfl (y_move s rfl) fun a s => ?_
    obtain ⟨p70, hep70, hpp70⟩ := SlR.elemX (s.ft 106 rfl) hx32
    refine qt s hR rfl (y_elem (sz := 2) (i := t_24) s rfl rfl underlying41 rfl hep70 rfl (lt_of_get hx32)) fun a s => ?_
    refine qt s hR rfl (y_ptrField (o' := 1) s rfl underlying45 rfl rfl rfl) fun a s => ?_
    obtain ⟨hlq71, hmq71, csq71, hdq71, hcq71⟩ := hpp70
    obtain ⟨rfl, lq711⟩ := RArg.open hdq71
    refine qt s hR rfl (y_ldp1 s rfl hlq71 hmq71 (hcq71 1 _ rfl) underlying3 rfl) fun a s => ?_
    refine l_take s rfl rfl (l_call (cap := []) s rfl func61 rfl (by kernel_rfl) rfl rfl (c_r01_Decimal n _ _ s.lt x32.Var r62 hr62) fun v72 a w hK hp s => ?_)
    replace hZ := Nat.le_trans hZ hK.size; refine ⟨fun g _ h => h.grow hK, ?_⟩; clear hK
    obtain ⟨rfl, lu73a1⟩ := hp
    refine l_take s rfl rfl (l_quiet s rfl rfl (y_concat s rfl rfl hk65) fun a s => ?_); refine ⟨fun g _ h => h, ?_⟩
    refine l_take s rfl rfl (l_quiet s rfl rfl (y_assign s rfl) fun a s => ?_); refine ⟨fun g _ h => h, ?_⟩
    clear hR hZ
    refine p_inN ?_
    apply pN
    apply wL
    refine mv s rfl rfl fun a s => ?_
    refine qq s rfl (y_addN (i := t_24) (j := 1) s rfl rfl (in64.2 (by omega))) fun a s => ?_
    refine asg s rfl rfl fun a s => ?_
    apply wN
    exact ⟨m2, Nat.lt_succ_self _, ⟨((((t_28 ++ x32.Role) ++ [32]) ++ x57) ++ r62), (t_24 + 1), hg, (by first | omega | (rw [List.length_append]; omega) | (simp only [List.length_append]; omega) | (simp only [List.length_append, List.length_take, List.length_drop, List.length_cons, List.length_nil]; omega)), (s.sb rfl rfl rfl)⟩⟩
   replace hg := br_f hg hc25
   apply wp_exit
   refine p_then ?_
   refine p_then ?_
   refine p_in ?_
   apply pN
   exact ⟨(t_23), hg, (by omega), (s.sb rfl rfl rfl)⟩
  clear s a; rintro a w ⟨t_22, hg, lt_22, s⟩
  subst hk21
  obtain ⟨hk74, hg⟩ := chk_some hg
  apply wL
  refine mv s rfl rfl fun a s => ?_
  refine qq s rfl (y_concat s rfl rfl hk74) fun a s => ?_
  refine asg s rfl rfl fun a s => ?_
  apply wO
  refine p_inN ?_
  apply pN
  apply wL
  refine mv s rfl rfl fun a s => ?_
  refine qq s rfl (y_addN (i := t_4) (j := 1) s rfl rfl (in64.2 (by omega))) fun a s => ?_
  refine asg s rfl rfl fun a s => ?_
  apply wN
  exact ⟨m1, Nat.lt_succ_self _, ⟨(t_22 ++ [41]), (t_4 + 1), hg, (by first | omega | (rw [List.length_append]; omega) | (simp only [List.length_append]; omega) | (simp only [List.length_append, List.length_take, List.length_drop, List.length_cons, List.length_nil]; omega)), (s.sb rfl rfl rfl)⟩⟩
 replace hg := br_f hg hc5
 apply wp_exit
 refine p_then ?_
 refine p_then ?_
 refine p_in ?_
 apply pN
 apply wR
 refine mv s rfl rfl fun a s => ?_
 refine asg s rfl rfl fun a s => ?_
 apply wN
 apply wp_ret
 obtain rfl := Option.some.inj hg
 refine fin1 (fn := Tryz.f44) s rfl (r_tmp s rfl) ?_
 exact ⟨rfl, (by omega)⟩
set_option maxHeartbeats 400000 in
theorem c_r41_Print (n : Nat) (M : Bs) (w0 : World) (hM : ∀ b, M b → b < w0.heap.size) (m_ : MRS) (Ap03 : Option Addr) (cp03 : Nat) (Ap04 : Option Addr) (cp04 : Nat) (Ap05 : Option Addr) (cp05 : Nat) (hp03 : SlR Rep.str M w0 Ap03 (m_.Vars).length cp03 (m_.Vars)) (hp04 : SlR REP M w0 Ap04 (m_.Rels).length cp04 (m_.Rels)) (hp05 : SlR RQeq M w0 Ap05 (m_.Cons).length cp05 (m_.Cons)) (plug_ : (List Int)) (Ap11 : Option Addr) (cp11 : Nat) (hp11 : SlR (Rep.num .i64) M w0 Ap11 (plug_).length cp11 (plug_)) (r : ((List UInt8) × Int)) (hg : r41_Print n m_ plug_ = some r) :
    Calls Tryz.prog 22 [.agg #[.int .i64 (m_.Top), .int .i64 (m_.Index), .slice (Ap03) ((m_.Vars).length) (cp03), .slice (Ap04) ((m_.Rels).length) (cp04), .slice (Ap05) ((m_.Cons).length) (cp05)], .slice (Ap11) ((plug_).length) (cp11)].toArray w0 (Ret noB w0 fun v w => v = .tuple #[.string (bs (r.1)), .int .i64 (r.2)] ∧ ((r.1).length ≤ 9223372036854775807)) := by
 unfold r41_Print at hg
 refine enter M noB func22 rfl rfl hM ?_
 intro a s
 replace s := s.es 101 hp03
 replace s := s.es 102 hp04
 replace s := s.es 103 hp05
 replace s := s.es 104 hp11
 apply wR
 refine l_seq rfl (l_box (zs := [vI (m_.Top), vI (m_.Index), sl Ap03 (m_.Vars) cp03, sl Ap04 (m_.Rels) cp04, sl Ap05 (m_.Cons) cp05]) s 1000 rfl rfl rfl rfl fun b2 a w hb hK s => ?_)
 refine asg s rfl rfl fun a s => ?_
 refine asg s rfl rfl fun a s => ?_
 apply wN
 apply wQ
 apply wQ
 obtain ⟨r3, hr3, hg⟩ := bind_some hg
 apply wL
 refine qq s rfl (y_loadAll (kk := 1000) s rfl rfl underlying26 rfl rfl) fun a s => ?_
 refine mv s rfl rfl fun a s => ?_
 refine l_seq rfl (l_call (cap := []) s rfl func20 rfl (by kernel_rfl) rfl rfl (c_r41_Valid n _ _ s.lt m_ (Ap03) (cp03) (Ap04) (cp04) (Ap05) (cp05) (s.ft 101 rfl) (s.ft 102 rfl) (s.ft 103 rfl) plug_ (Ap11) (cp11) (s.ft 104 rfl) r3 hr3) fun v6 a w hK hp s => ?_)
 obtain rfl := hp
 refine asg s rfl rfl fun a s => ?_
 apply wN
 apply wR
 refine mv s rfl rfl fun a s => ?_
 refine qq s rfl (y_neq s rfl rfl) fun a s => ?_
 apply wN
 refine c_dec s rfl (fun hc8 => ?_) (fun hc8 => ?_)
 ·replace hg := br_t hg hc8
  apply wR
  refine mv s rfl rfl fun a s => ?_
  refine asg s rfl rfl fun a s => ?_
  refine asg s rfl rfl fun a s => ?_
  apply wN
  apply wp_ret
  refine p_thenR ?_
  obtain rfl := Option.some.inj hg
  refine fin2 (fn := Tryz.f22) s rfl (r_tmp s rfl) (r_tmp s rfl) ?_
  exact ⟨rfl, (by first | omega | (rw [List.length_append]; omega) | (simp only [List.length_append]; omega) | (simp only [List.length_append, List.length_take, List.length_drop, List.length_cons, List.length_nil]; omega))⟩
 replace hg := br_f hg hc8
 apply wp_skip
 apply pN
 apply wQ
 obtain ⟨r9, hr9, hg⟩ := bind_some hg
 obtain ⟨r12, hr12, hg⟩ := bind_some hg
 refine d_plan s [] [(0, some 1000), (1, some 0), (2, some 1000), (3, some 0), (4, some 0), (5, some 1000), (6, none), (7, none), (8, none), (9, none)] rfl (by kernel_rfl) (by kernel_rfl) rfl ?_; clear s; intro wr hZ s; have hR := s.wd
 refine qt s hR rfl (y_loadAll (kk := 1000) s rfl rfl underlying26 rfl rfl) fun a s => ?_
 refine qt s hR rfl (y_move s rfl) fun a s => ?_
 refine qt s hR rfl (y_loadAll (kk := 1000) s rfl rfl underlying26 rfl rfl) fun a s => ?_
 refine qt s hR rfl (y_move s rfl) fun a s => ?_
 refine qt s hR rfl (y_boxField (o' := 0) s rfl underlying26 rfl rfl rfl) fun a s => ?_
 refine qt s hR rfl (y_loadBox1 (kk := 1000) s rfl rfl rfl underlying3 rfl) fun a s => ?_
 refine l_take s rfl rfl (l_call (cap := []) s rfl func45 rfl (by kernel_rfl) rfl rfl (c_r41_at n _ _ s.lt m_ (Ap03) (cp03) (Ap04) (cp04) (Ap05) (cp05) (s.ft 101 rfl) (s.ft 102 rfl) (s.ft 103 rfl) plug_ (Ap11) (cp11) (s.ft 104 rfl) m_.Top r9 hr9) fun v15 a w hK hp s => ?_)
 replace hZ := Nat.le_trans hZ hK.size; refine ⟨fun g _ h => h.grow hK, ?_⟩; clear hK
 obtain rfl := hp
 refine l_take s rfl rfl (l_call (cap := []) s rfl func44 rfl (by kernel_rfl) rfl rfl (c_r41_form n _ _ s.lt m_ (Ap03) (cp03) (Ap04) (cp04) (Ap05) (cp05) (s.ft 101 rfl) (s.ft 102 rfl) (s.ft 103 rfl) plug_ (Ap11) (cp11) (s.ft 104 rfl) r9 r12 hr12) fun v17 a w hK hp s => ?_)
 replace hZ := Nat.le_trans hZ hK.size; refine ⟨fun g _ h => h.grow hK, ?_⟩; clear hK
 obtain ⟨rfl, lu18a1⟩ := hp
 refine l_take s rfl rfl (l_quiet s rfl rfl (y_assign s rfl) fun a s => ?_); refine ⟨fun g _ h => h, ?_⟩
 refine l_take s rfl rfl (l_quiet s rfl rfl (y_assign s rfl) fun a s => ?_); refine ⟨fun g _ h => h, ?_⟩
 clear hR hZ
 apply pN
 apply wp_ret
 obtain rfl := Option.some.inj hg
 refine fin2 (fn := Tryz.f22) s rfl (r_tmp s rfl) (r_tmp s rfl) ?_
 exact ⟨rfl, (by omega)⟩
end Go.Proofs.YtegboboemepifaaGreatDoor

