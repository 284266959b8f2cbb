/- Chapter 42: the walks, part 5 -/
import Derived.Test.YtdicfdfncbmmpaaGreatW4
namespace Go.Proofs.YtdicfdfncbmmpaaGreat
open Go.Gl Go.RowKit Tryz
set_option linter.unusedVariables false
set_option linter.unusedSimpArgs false
set_option maxRecDepth 4000

set_option maxHeartbeats 400000 in
theorem c_r41_Valid (n : Nat) (M : Bs) (w0 : World) (hM : ∀ b, M b → b < w0.heap.size) (t_ : MRS) (Ap03 : Option Addr) (cp03 : Nat) (Ap04 : Option Addr) (cp04 : Nat) (Ap05 : Option Addr) (cp05 : Nat) (hp03 : SlR Rep.str M w0 Ap03 (t_.Vars).length cp03 (t_.Vars)) (hp04 : SlR REP M w0 Ap04 (t_.Rels).length cp04 (t_.Rels)) (hp05 : SlR RQeq M w0 Ap05 (t_.Cons).length cp05 (t_.Cons)) (t_' : (List Int)) (Ap11 : Option Addr) (cp11 : Nat) (hp11 : SlR (Rep.num .i64) M w0 Ap11 (t_').length cp11 (t_')) (r : Int) (hg : r41_Valid n t_ t_' = some r) :
    Calls Tryz.prog 62 [.agg #[.int .i64 (t_.Top), .int .i64 (t_.Index), .slice (Ap03) ((t_.Vars).length) (cp03), .slice (Ap04) ((t_.Rels).length) (cp04), .slice (Ap05) ((t_.Cons).length) (cp05)], .slice (Ap11) ((t_').length) (cp11)].toArray w0 (Ret noB w0 fun v w => v = .int .i64 (r)) := by
 unfold r41_Valid at hg
 refine enter M noB func62 rfl rfl hM ?_
 intro a s
 replace s := s.es 101 hp03
 replace s := s.es 102 hp04
 replace s := s.es 103 hp05
 replace s := s.es 104 hp11
 apply wR
 refine l_seq rfl (l_box (zs := [vI (t_.Top), vI (t_.Index), sl Ap03 (t_.Vars) cp03, sl Ap04 (t_.Rels) cp04, sl Ap05 (t_.Cons) cp05]) s 1000 rfl rfl rfl rfl fun b2 a w hb hK s => ?_)
 refine asg s rfl rfl fun a s => ?_
 apply wN
 apply wQ
 obtain ⟨r3, hr3, hg⟩ := bind_some hg
 apply wL
 refine qq s rfl (y_loadAll (kk := 1000) s rfl rfl underlying26 rfl rfl) fun a s => ?_
 refine l_seq rfl (l_call (cap := []) s rfl func35 rfl (by kernel_rfl) rfl rfl (c_r41_Labels n _ _ s.lt t_ (Ap03) (cp03) (Ap04) (cp04) (Ap05) (cp05) (s.ft 101 rfl) (s.ft 102 rfl) (s.ft 103 rfl) r3 hr3) fun v6 a w hK hp s => ?_)
 obtain ⟨Au7a1, cu7a1, rfl, hu7a1⟩ := hp
 replace s := s.ns 106 hu7a1
 refine asg s rfl rfl fun a s => ?_
 apply wN
 apply wQ
 apply wQ
 obtain ⟨r8, hr8, hg⟩ := bind_some hg
 apply wL
 refine mv s rfl rfl fun a s => ?_
 refine qq s rfl (y_lenSlice s rfl underlying35) fun a s => ?_
 refine qq s rfl (y_loadAll (kk := 1000) s rfl rfl underlying26 rfl rfl) fun a s => ?_
 refine l_seq rfl (l_call (cap := []) s rfl func20 rfl (by kernel_rfl) rfl rfl (c_r41_Holes n _ _ s.lt t_ (Ap03) (cp03) (Ap04) (cp04) (Ap05) (cp05) (s.ft 101 rfl) (s.ft 102 rfl) (s.ft 103 rfl) r8 hr8) fun v11 a w hK hp s => ?_)
 obtain ⟨Au12a1, cu12a1, rfl, hu12a1⟩ := hp
 replace s := s.ns 108 hu12a1
 refine qq s rfl (y_lenSlice s rfl underlying35) fun a s => ?_
 refine qq s rfl (y_neqN (i := ((t_').length)) (j := ((r8).length)) s rfl rfl) fun a s => ?_
 apply wN
 refine c_dec s rfl (fun hc13 => ?_) (fun hc13 => ?_)
 ·replace hg := br_t hg hc13
  apply wR
  refine asg s rfl rfl fun a s => ?_
  apply wN
  apply wp_ret
  refine p_thenR ?_
  obtain rfl := Option.some.inj hg
  refine fin1 (fn := Tryz.f62) s rfl (r_tmp s rfl) ?_
  exact rfl
 replace hg := br_f hg hc13
 apply wp_skip
 apply pN
 apply wQ
 apply wR
 refine asg s rfl rfl fun a s => ?_
 apply wN
 obtain ⟨k14, hg, hk14⟩ := jn_some hg
 refine c_post (fun a w => k14 = some r ∧ St (⟨Tryz.f62.ntmps, M, noB, w0⟩ : Ctx) [(1, sl Ap11 (t_') cp11), (2, vP b2 0), (5, sl Au7a1 (r3) cu7a1)] [(1000, Ob.box b2 [vI (t_.Top), vI (t_.Index), sl Ap03 (t_.Vars) cp03, sl Ap04 (t_.Rels) cp04, sl Ap05 (t_.Cons) cp05] 26)] [(101, slF Rep.str (Ap03) ((t_.Vars).length) (cp03) (t_.Vars)), (102, slF REP (Ap04) ((t_.Rels).length) (cp04) (t_.Rels)), (103, slF RQeq (Ap05) ((t_.Cons).length) (cp05) (t_.Cons)), (104, slF (Rep.num .i64) (Ap11) ((t_').length) (cp11) (t_')), (106, slF (Rep.num .i64) (Au7a1) ((r3).length) (cu7a1) (r3))] a w) ?_ ?_
 ·apply wp_block
  refine c_loop (σ := Nat) (fun m1 a w => ∃ (t_15 : Nat), r41_Valid_L0 n t_' r3 k14 m1 t_15 = some r ∧ St (⟨Tryz.f62.ntmps, M, noB, w0⟩ : Ctx) [(1, sl Ap11 (t_') cp11), (2, vP b2 0), (5, sl Au7a1 (r3) cu7a1), (6, vI (((t_15 : Nat) : Int)))] [(1000, Ob.box b2 [vI (t_.Top), vI (t_.Index), sl Ap03 (t_.Vars) cp03, sl Ap04 (t_.Rels) cp04, sl Ap05 (t_.Cons) cp05] 26)] [(101, slF Rep.str (Ap03) ((t_.Vars).length) (cp03) (t_.Vars)), (102, slF REP (Ap04) ((t_.Rels).length) (cp04) (t_.Rels)), (103, slF RQeq (Ap05) ((t_.Cons).length) (cp05) (t_.Cons)), (104, slF (Rep.num .i64) (Ap11) ((t_').length) (cp11) (t_')), (106, slF (Rep.num .i64) (Au7a1) ((r3).length) (cu7a1) (r3))] a w) (fun m1 => m1) n ⟨(0), hg, (s.sb rfl rfl rfl)⟩ ?_
  clear s a; rintro m1 a w ⟨t_15, hg, s⟩
  rcases m1 with _ | m1
  ·rw [r41_Valid_L0] at hg; cases hg
  rw [r41_Valid_L0] at hg
  apply wQ
  apply wR
  refine mv s rfl rfl fun a s => ?_
  refine mv s rfl rfl fun a s => ?_
  refine qq s rfl (y_lenSlice s rfl underlying35) fun a s => ?_
  refine qq s rfl (y_lssN (i := t_15) (j := ((t_').length)) s rfl rfl) fun a s => ?_
  apply wN
  refine c_dec s rfl (fun hc16 => ?_) (fun hc16 => ?_)
  ·replace hg := br_t hg hc16
   have hmx17 := SlR.mx (s.ft 104 rfl)
   apply wp_skip
   apply pN
   apply wQ
   apply wp_block
   apply wQ
   obtain ⟨k18, hg, hk18⟩ := jn_some hg
   refine c_post (fun a w => ∃ (t_19 : Bool), k18 t_19 = some r ∧ St (⟨Tryz.f62.ntmps, M, noB, w0⟩ : Ctx) [(1, sl Ap11 (t_') cp11), (2, vP b2 0), (5, sl Au7a1 (r3) cu7a1), (6, vI (((t_15 : Nat) : Int))), (39, .bool (t_19))] [(1000, Ob.box b2 [vI (t_.Top), vI (t_.Index), sl Ap03 (t_.Vars) cp03, sl Ap04 (t_.Rels) cp04, sl Ap05 (t_.Cons) cp05] 26)] [(101, slF Rep.str (Ap03) ((t_.Vars).length) (cp03) (t_.Vars)), (102, slF REP (Ap04) ((t_.Rels).length) (cp04) (t_.Rels)), (103, slF RQeq (Ap05) ((t_.Cons).length) (cp05) (t_.Cons)), (104, slF (Rep.num .i64) (Ap11) ((t_').length) (cp11) (t_')), (106, slF (Rep.num .i64) (Au7a1) ((r3).length) (cu7a1) (r3))] a w) ?_ ?_
   ·obtain ⟨x21, hx21, hg⟩ := bind_some hg
    obtain ⟨r23, hr23, hg⟩ := bind_some hg
    rcases Bool.eq_false_or_eq_true (!(r23)) with hs26 | hs26
    ·replace hg := br_t hg hs26
     refine d_steps s [] rfl ?_; clear s; intro wr hZ s; have hR := s.wd; have hE := Ext.init hR 0
     refine n_q 0 0 s hR rfl (by kernel_rfl) (by kernel_rfl) (by kernel_rfl) rfl rfl rfl (y_move s rfl) fun a s => ?_
     refine n_q 1 0 s hR rfl (by kernel_rfl) (by kernel_rfl) (by kernel_rfl) rfl rfl rfl (y_move s rfl) fun a s => ?_
     refine n_q 2 0 s hR rfl (by kernel_rfl) (by kernel_rfl) (by kernel_rfl) rfl rfl rfl (y_move s rfl) fun a s => ?_
     obtain ⟨p27, hep27, hpp27⟩ := SlR.elemX (s.ft 104 rfl) hx21
     refine n_q 3 0 s hR rfl (by kernel_rfl) (by kernel_rfl) (by kernel_rfl) rfl rfl rfl (y_elem (sz := 1) (i := t_15) s rfl rfl underlying35 rfl hep27 rfl (lt_of_get hx21)) fun a s => ?_
     obtain ⟨hlq28, hmq28, csq28, hdq28, hcq28⟩ := hpp27
     obtain rfl := hdq28
     refine n_q 4 0 s hR rfl (by kernel_rfl) (by kernel_rfl) (by kernel_rfl) rfl rfl rfl (y_ldp1 s rfl hlq28 hmq28 (hcq28 0 _ rfl) underlying3 rfl) fun a s => ?_
     refine n_1 5 s (by kernel_rfl) rfl rfl (l_call (cap := []) s rfl func37 rfl (by kernel_rfl) rfl rfl (c_r41_Has n _ _ s.lt r3 (Au7a1) (cu7a1) (s.ft 106 rfl) x21 r23 hr23) fun v29 a w hK hp s => ?_)
     replace hE := hE.grow hK; replace hZ := Nat.le_trans hZ hK.size; refine ⟨fun g _ h => h.grow hK, ?_⟩; clear hK
     obtain rfl := hp
     refine n_1 6 s (by kernel_rfl) rfl rfl (l_quiet s rfl rfl (yl_b (y_not s rfl) hs26) fun a s => ?_); refine ⟨fun g _ h => h, ?_⟩
     refine n_1 7 s (by kernel_rfl) rfl rfl (l_quiet s rfl rfl (y_move s rfl) fun a s => ?_); refine ⟨fun g _ h => h, ?_⟩
     refine n_qlpass 8 s hE rfl (by kernel_rfl) (by kernel_rfl) (by kernel_rfl) rfl ⟨_, _, _, rfl, rfl, rfl, rfl⟩ rfl fun a s => ?_
     refine n_qlpass 9 s hE rfl (by kernel_rfl) (by kernel_rfl) (by kernel_rfl) rfl ⟨_, _, _, rfl, rfl, rfl, rfl⟩ rfl fun a s => ?_
     refine n_qlpass 10 s hE rfl (by kernel_rfl) (by kernel_rfl) (by kernel_rfl) rfl ⟨_, _, _, rfl, rfl, rfl, rfl⟩ rfl fun a s => ?_
     refine n_qlpass 11 s hE rfl (by kernel_rfl) (by kernel_rfl) (by kernel_rfl) rfl ⟨_, _, _, rfl, rfl, rfl, rfl⟩ rfl fun a s => ?_
     refine n_pass 12 s (by kernel_rfl) rfl ⟨_, _, _, rfl, rfl, rfl, rfl⟩ rfl rfl fun a s => ?_
     refine n_pass 13 s (by kernel_rfl) rfl ⟨_, _, _, rfl, rfl, rfl, rfl⟩ rfl rfl fun a s => ?_
     refine n_pass 14 s (by kernel_rfl) rfl ⟨_, _, _, rfl, rfl, rfl, rfl⟩ rfl rfl fun a s => ?_
     refine n_pass 15 s (by kernel_rfl) rfl ⟨_, _, _, rfl, rfl, rfl, rfl⟩ rfl rfl fun a s => ?_
     refine n_1 16 s (by kernel_rfl) rfl rfl (l_quiet s rfl rfl (y_pick_t s rfl rfl) fun a s => ?_); refine ⟨fun g _ h => h, ?_⟩
     refine n_end (by kernel_rfl) ?_; clear hR hZ hE
     apply pN
     exact ⟨(true), hg, (s.sb rfl rfl rfl)⟩
    replace hg := br_n hg hs26
    obtain ⟨hk31, hg⟩ := chk_some hg
    obtain ⟨r34, hr34, hg⟩ := bind_some hg
    refine d_steps s [] rfl ?_; clear s; intro wr hZ s; have hR := s.wd; have hE := Ext.init hR 0
    refine n_q 0 0 s hR rfl (by kernel_rfl) (by kernel_rfl) (by kernel_rfl) rfl rfl rfl (y_move s rfl) fun a s => ?_
    refine n_q 1 0 s hR rfl (by kernel_rfl) (by kernel_rfl) (by kernel_rfl) rfl rfl rfl (y_move s rfl) fun a s => ?_
    refine n_q 2 0 s hR rfl (by kernel_rfl) (by kernel_rfl) (by kernel_rfl) rfl rfl rfl (y_move s rfl) fun a s => ?_
    obtain ⟨p37, hep37, hpp37⟩ := SlR.elemX (s.ft 104 rfl) hx21
    refine n_q 3 0 s hR rfl (by kernel_rfl) (by kernel_rfl) (by kernel_rfl) rfl rfl rfl (y_elem (sz := 1) (i := t_15) s rfl rfl underlying35 rfl hep37 rfl (lt_of_get hx21)) fun a s => ?_
    obtain ⟨hlq38, hmq38, csq38, hdq38, hcq38⟩ := hpp37
    obtain rfl := hdq38
    refine n_q 4 0 s hR rfl (by kernel_rfl) (by kernel_rfl) (by kernel_rfl) rfl rfl rfl (y_ldp1 s rfl hlq38 hmq38 (hcq38 0 _ rfl) underlying3 rfl) fun a s => ?_
    refine n_1 5 s (by kernel_rfl) rfl rfl (l_call (cap := []) s rfl func37 rfl (by kernel_rfl) rfl rfl (c_r41_Has n _ _ s.lt r3 (Au7a1) (cu7a1) (s.ft 106 rfl) x21 r23 hr23) fun v39 a w hK hp s => ?_)
    replace hE := hE.grow hK; replace hZ := Nat.le_trans hZ hK.size; refine ⟨fun g _ h => h.grow hK, ?_⟩; clear hK
    obtain rfl := hp
    refine n_1 6 s (by kernel_rfl) rfl rfl (l_quiet s rfl rfl (yl_b (y_not s rfl) hs26) fun a s => ?_); refine ⟨fun g _ h => h, ?_⟩
    refine n_1 7 s (by kernel_rfl) rfl rfl (l_quiet s rfl rfl (y_move s rfl) fun a s => ?_); refine ⟨fun g _ h => h, ?_⟩
    refine n_ql 8 s hE rfl (by kernel_rfl) (by kernel_rfl) (by kernel_rfl) rfl ⟨_, _, _, rfl, rfl, rfl, rfl⟩ rfl (fun w' s => y_move s rfl) fun a s => ?_
    refine n_ql 9 s hE rfl (by kernel_rfl) (by kernel_rfl) (by kernel_rfl) rfl ⟨_, _, _, rfl, rfl, rfl, rfl⟩ rfl (fun w' s => y_move s rfl) fun a s => ?_
    refine n_ql 11 s hE rfl (by kernel_rfl) (by kernel_rfl) (by kernel_rfl) rfl ⟨_, _, _, rfl, rfl, rfl, rfl⟩ rfl (fun w' s => y_move s rfl) fun a s => ?_
    refine n_ql 12 s hE rfl (by kernel_rfl) (by kernel_rfl) (by kernel_rfl) rfl ⟨_, _, _, rfl, rfl, rfl, rfl⟩ rfl (fun w' s => y_move s rfl) fun a s => ?_
    obtain ⟨p41, hep41, hpp41⟩ := SlR.elemX (s.ft 104 rfl) hx21
    refine n_ql 13 s hE rfl (by kernel_rfl) (by kernel_rfl) (by kernel_rfl) rfl ⟨_, _, _, rfl, rfl, rfl, rfl⟩ rfl (fun w' s => y_elem (sz := 1) (i := t_15) s rfl rfl underlying35 rfl hep41 rfl (lt_of_get hx21)) fun a s => ?_
    refine n_2 10 14 s (by kernel_rfl) rfl ⟨_, _, _, rfl, rfl, rfl, rfl⟩ rfl ⟨_, _, _, rfl, rfl, rfl, rfl⟩ ?_ ?_
    ·have hcap110 := (s.ft 104 rfl).cap
     refine l_quiet s rfl rfl (y_cutH (xs := t_') (sz := 1) (i := t_15) s rfl rfl underlying35 rfl rfl hk31 hcap110) fun a s => ?_; refine ⟨fun g _ h => h, ?_⟩
     replace s := s.add 110 (slF (Rep.num .i64) (Ap11) (((t_').take t_15).length) (cp11) ((t_').take t_15)) (SlR.cutH (s.ft 104 rfl) t_15 hk31)
     obtain ⟨hlq42, hmq42, csq42, hdq42, hcq42⟩ := hpp41
     obtain rfl := hdq42
     refine n_1 14 s (by kernel_rfl) rfl ⟨_, _, _, rfl, rfl, rfl, rfl⟩ (l_quiet s rfl rfl (y_ldp1 s rfl hlq42 hmq42 (hcq42 0 _ rfl) underlying3 rfl) fun a s => ?_); refine ⟨fun g _ h => h, ?_⟩
     refine n_1 15 s (by kernel_rfl) rfl ⟨_, _, _, rfl, rfl, rfl, rfl⟩ (l_call (cap := []) s rfl func37 rfl (by kernel_rfl) rfl rfl (c_r41_Has n _ _ s.lt ((t_').take t_15) (Ap11) (cp11) (s.ft 110 rfl) x21 r34 hr34) fun v43 a w hK hp s => ?_)
     replace hE := hE.grow hK; replace hZ := Nat.le_trans hZ hK.size; refine ⟨fun g _ h => h.grow hK, ?_⟩; clear hK
     obtain rfl := hp
     refine n_1 16 s (by kernel_rfl) rfl rfl (l_quiet s rfl rfl (y_pick_f s rfl rfl) fun a s => ?_); refine ⟨fun g _ h => h, ?_⟩
     refine n_end (by kernel_rfl) ?_; clear hR hZ hE
     apply pN
     exact ⟨(r34), hg, (s.sb rfl rfl rfl)⟩
    ·obtain ⟨hlq45, hmq45, csq45, hdq45, hcq45⟩ := hpp41
     obtain rfl := hdq45
     refine l_quiet s rfl rfl (y_ldp1 s rfl hlq45 hmq45 (hcq45 0 _ rfl) underlying3 rfl) fun a s => ?_; refine ⟨fun g _ h => h, ?_⟩
     have hcap111 := (s.ft 104 rfl).cap
     refine n_1 10 s (by kernel_rfl) rfl ⟨_, _, _, rfl, rfl, rfl, rfl⟩ (l_quiet s rfl rfl (y_cutH (xs := t_') (sz := 1) (i := t_15) s rfl rfl underlying35 rfl rfl hk31 hcap111) fun a s => ?_); refine ⟨fun g _ h => h, ?_⟩
     replace s := s.add 111 (slF (Rep.num .i64) (Ap11) (((t_').take t_15).length) (cp11) ((t_').take t_15)) (SlR.cutH (s.ft 104 rfl) t_15 hk31)
     refine n_1 15 s (by kernel_rfl) rfl ⟨_, _, _, rfl, rfl, rfl, rfl⟩ (l_call (cap := []) s rfl func37 rfl (by kernel_rfl) rfl rfl (c_r41_Has n _ _ s.lt ((t_').take t_15) (Ap11) (cp11) (s.ft 111 rfl) x21 r34 hr34) fun v46 a w hK hp s => ?_)
     replace hE := hE.grow hK; replace hZ := Nat.le_trans hZ hK.size; refine ⟨fun g _ h => h.grow hK, ?_⟩; clear hK
     obtain rfl := hp
     refine n_1 16 s (by kernel_rfl) rfl rfl (l_quiet s rfl rfl (y_pick_f s rfl rfl) fun a s => ?_); refine ⟨fun g _ h => h, ?_⟩
     refine n_end (by kernel_rfl) ?_; clear hR hZ hE
     apply pN
     exact ⟨(r34), hg, (s.sb rfl rfl rfl)⟩
   clear s a; rintro a w ⟨t_19, hg, s⟩
   subst hk18
   refine c_cond s rfl (fun hc48 => ?_) (fun hc48 => ?_)
   ·replace hg := br_t hg hc48
    apply wR
    refine asg s rfl rfl fun a s => ?_
    apply wN
    apply wp_ret
    refine p_inR ?_
    refine p_thenR ?_
    refine p_thenR ?_
    refine p_inR ?_
    refine p_thenR ?_
    obtain rfl := Option.some.inj hg
    refine fin1 (fn := Tryz.f62) s rfl (r_tmp s rfl) ?_
    exact rfl
   replace hg := br_n hg hc48
   apply wp_skip
   refine p_inN ?_
   apply pN
   apply wL
   refine mv s rfl rfl fun a s => ?_
   refine qq s rfl (y_addN (i := t_15) (j := 1) s rfl rfl (in64.2 (by omega))) fun a s => ?_
   refine asg s rfl rfl fun a s => ?_
   apply wN
   exact ⟨m1, Nat.lt_succ_self _, ⟨(t_15 + 1), hg, (s.sb rfl rfl rfl)⟩⟩
  replace hg := br_f hg hc16
  apply wp_exit
  refine p_then ?_
  refine p_then ?_
  refine p_in ?_
  apply pN
  exact ⟨hg, (s.sb rfl rfl rfl)⟩
 clear s a; rintro a w ⟨hg, s⟩
 subst hk14
 apply wQ
 apply wQ
 obtain ⟨r49, hr49, hg⟩ := bind_some hg
 apply wL
 refine qq s rfl (y_loadAll (kk := 1000) s rfl rfl underlying26 rfl rfl) fun a s => ?_
 refine mv s rfl rfl fun a s => ?_
 refine l_seq rfl (l_call (cap := []) s rfl func75 rfl (by kernel_rfl) rfl rfl (c_r41_tree n _ _ s.lt t_ (Ap03) (cp03) (Ap04) (cp04) (Ap05) (cp05) (s.ft 101 rfl) (s.ft 102 rfl) (s.ft 103 rfl) t_' (Ap11) (cp11) (s.ft 104 rfl) r49 hr49) fun v52 a w hK hp s => ?_)
 obtain rfl := hp
 refine qq s rfl (y_not s rfl) fun a s => ?_
 apply wN
 refine c_cond s rfl (fun hc54 => ?_) (fun hc54 => ?_)
 ·replace hg := br_t hg hc54
  apply wR
  refine asg s rfl rfl fun a s => ?_
  apply wN
  apply wp_ret
  refine p_thenR ?_
  obtain rfl := Option.some.inj hg
  refine fin1 (fn := Tryz.f62) s rfl (r_tmp s rfl) ?_
  exact rfl
 replace hg := br_n hg hc54
 apply wp_skip
 apply pN
 apply wQ
 apply wR
 refine asg s rfl rfl fun a s => ?_
 apply wN
 obtain ⟨k55, hg, hk55⟩ := jn_some hg
 refine c_post (fun a w => k55 = some r ∧ St (⟨Tryz.f62.ntmps, M, noB, w0⟩ : Ctx) [(1, sl Ap11 (t_') cp11), (2, vP b2 0)] [(1000, Ob.box b2 [vI (t_.Top), vI (t_.Index), sl Ap03 (t_.Vars) cp03, sl Ap04 (t_.Rels) cp04, sl Ap05 (t_.Cons) cp05] 26)] [(101, slF Rep.str (Ap03) ((t_.Vars).length) (cp03) (t_.Vars)), (102, slF REP (Ap04) ((t_.Rels).length) (cp04) (t_.Rels)), (103, slF RQeq (Ap05) ((t_.Cons).length) (cp05) (t_.Cons)), (104, slF (Rep.num .i64) (Ap11) ((t_').length) (cp11) (t_'))] a w) ?_ ?_
 ·apply wp_block
  refine c_loop (σ := Nat) (fun m2 a w => ∃ (t_56 : Nat), r41_Valid_L1 n t_ t_' r3 k55 m2 t_56 = some r ∧ St (⟨Tryz.f62.ntmps, M, noB, w0⟩ : Ctx) [(1, sl Ap11 (t_') cp11), (2, vP b2 0), (5, sl Au7a1 (r3) cu7a1), (7, vI (((t_56 : Nat) : Int)))] [(1000, Ob.box b2 [vI (t_.Top), vI (t_.Index), sl Ap03 (t_.Vars) cp03, sl Ap04 (t_.Rels) cp04, sl Ap05 (t_.Cons) cp05] 26)] [(101, slF Rep.str (Ap03) ((t_.Vars).length) (cp03) (t_.Vars)), (102, slF REP (Ap04) ((t_.Rels).length) (cp04) (t_.Rels)), (103, slF RQeq (Ap05) ((t_.Cons).length) (cp05) (t_.Cons)), (104, slF (Rep.num .i64) (Ap11) ((t_').length) (cp11) (t_')), (106, slF (Rep.num .i64) (Au7a1) ((r3).length) (cu7a1) (r3))] a w) (fun m2 => m2) n ⟨(0), hg, (s.sb rfl rfl rfl)⟩ ?_
  clear s a; rintro m2 a w ⟨t_56, hg, s⟩
  rcases m2 with _ | m2
  ·rw [r41_Valid_L1] at hg; cases hg
  rw [r41_Valid_L1] at hg
  apply wQ
  apply wR
  refine mv s rfl rfl fun a s => ?_
  refine qq s rfl (y_boxField (o' := 4) s rfl underlying26 rfl rfl rfl) fun a s => ?_
  refine qq s rfl (y_loadBox1 (kk := 1000) s rfl rfl rfl underlying24 rfl) fun a s => ?_
  refine qq s rfl (y_lenSlice s rfl underlying24) fun a s => ?_
  refine qq s rfl (y_lssN (i := t_56) (j := ((t_.Cons).length)) s rfl rfl) fun a s => ?_
  apply wN
  refine c_dec s rfl (fun hc57 => ?_) (fun hc57 => ?_)
  ·replace hg := br_t hg hc57
   have hmx58 := SlR.mx (s.ft 103 rfl)
   apply wp_skip
   apply pN
   apply wQ
   apply wp_block
   apply wQ
   obtain ⟨x60, hx60, hg⟩ := bind_some hg
   obtain ⟨hk64, hg⟩ := chk_some hg
   obtain ⟨r65, hr65, hg⟩ := bind_some hg
   refine d_plan s [] [(0, some 1000), (1, some 0), (2, some 0), (3, some 1000), (4, some 0), (5, some 0), (6, some 0), (7, some 0), (8, some 0), (9, some 1000), (10, some 0), (11, some 0), (12, some 0), (13, some 0), (14, some 0), (15, some 0), (16, some 0), (17, none), (18, none)] rfl (by kernel_rfl) (by kernel_rfl) rfl ?_; clear s; intro wr hZ s; have hR := s.wd
   refine qt s hR rfl (y_loadAll (kk := 1000) s rfl rfl underlying26 rfl rfl) fun a s => ?_
   refine qt s hR rfl (y_move s rfl) fun a s => ?_
   refine qt s hR rfl (y_boxField (o' := 4) s rfl underlying26 rfl rfl rfl) fun a s => ?_
   refine qt s hR rfl (y_loadBox1 (kk := 1000) s rfl rfl rfl underlying24 rfl) fun a s => ?_
   refine qt s hR rfl (y_move s rfl) fun a s => ?_
   obtain ⟨p68, hep68, hpp68⟩ := SlR.elemX (s.ft 103 rfl) hx60
   refine qt s hR rfl (y_elem (sz := 2) (i := t_56) s rfl rfl underlying24 rfl hep68 rfl (lt_of_get hx60)) fun a s => ?_
   refine qt s hR rfl (y_ptrField (o' := 0) s rfl underlying65 rfl rfl rfl) fun a s => ?_
   obtain ⟨hlq69, hmq69, csq69, hdq69, hcq69⟩ := hpp68
   obtain rfl := RQeq.open hdq69
   refine qt s hR rfl (y_ldp1 s rfl hlq69 hmq69 (hcq69 0 _ rfl) underlying3 rfl) fun a s => ?_
   refine qt s hR rfl (y_boxField (o' := 4) s rfl underlying26 rfl rfl rfl) fun a s => ?_
   refine qt s hR rfl (y_loadBox1 (kk := 1000) s rfl rfl rfl underlying24 rfl) fun a s => ?_
   refine qt s hR rfl (y_move s rfl) fun a s => ?_
   obtain ⟨p70, hep70, hpp70⟩ := SlR.elemX (s.ft 103 rfl) hx60
   refine qt s hR rfl (y_elem (sz := 2) (i := t_56) s rfl rfl underlying24 rfl hep70 rfl (lt_of_get hx60)) fun a s => ?_
   refine qt s hR rfl (y_ptrField (o' := 1) s rfl underlying65 rfl rfl rfl) fun a s => ?_
   obtain ⟨hlq71, hmq71, csq71, hdq71, hcq71⟩ := hpp70
   obtain rfl := RQeq.open hdq71
   refine qt s hR rfl (y_ldp1 s rfl hlq71 hmq71 (hcq71 1 _ rfl) underlying3 rfl) fun a s => ?_
   refine qt s hR rfl (y_move s rfl) fun a s => ?_
   refine qt s hR rfl (y_lenSlice s rfl underlying35) fun a s => ?_
   refine qt s hR rfl (y_addN (i := ((r3).length)) (j := 1) s rfl rfl (in64.2 (by omega))) fun a s => ?_
   refine l_take s rfl rfl (l_call (cap := []) s rfl func76 rfl (by kernel_rfl) rfl rfl (c_r41_reaches n _ _ s.lt t_ (Ap03) (cp03) (Ap04) (cp04) (Ap05) (cp05) (s.ft 101 rfl) (s.ft 102 rfl) (s.ft 103 rfl) t_' (Ap11) (cp11) (s.ft 104 rfl) x60.High x60.Low (((r3).length + 1 : Nat) : Int) r65 hr65) fun v72 a w hK hp s => ?_)
   replace hZ := Nat.le_trans hZ hK.size; refine ⟨fun g _ h => h.grow hK, ?_⟩; clear hK
   obtain rfl := hp
   refine l_take s rfl rfl (l_quiet s rfl rfl (y_not s rfl) fun a s => ?_); refine ⟨fun g _ h => h, ?_⟩
   clear hR hZ
   apply pN
   refine c_cond s rfl (fun hc74 => ?_) (fun hc74 => ?_)
   ·replace hg := br_t hg hc74
    apply wR
    refine asg s rfl rfl fun a s => ?_
    apply wN
    apply wp_ret
    refine p_inR ?_
    refine p_thenR ?_
    refine p_thenR ?_
    refine p_inR ?_
    refine p_thenR ?_
    obtain rfl := Option.some.inj hg
    refine fin1 (fn := Tryz.f62) s rfl (r_tmp s rfl) ?_
    exact rfl
   replace hg := br_n hg hc74
   apply wp_skip
   refine p_inN ?_
   apply pN
   apply wL
   refine mv s rfl rfl fun a s => ?_
   refine qq s rfl (y_addN (i := t_56) (j := 1) s rfl rfl (in64.2 (by omega))) fun a s => ?_
   refine asg s rfl rfl fun a s => ?_
   apply wN
   exact ⟨m2, Nat.lt_succ_self _, ⟨(t_56 + 1), hg, (s.sb rfl rfl rfl)⟩⟩
  replace hg := br_f hg hc57
  apply wp_exit
  refine p_then ?_
  refine p_then ?_
  refine p_in ?_
  apply pN
  exact ⟨hg, (s.sb rfl rfl rfl)⟩
 clear s a; rintro a w ⟨hg, s⟩
 subst hk55
 apply wQ
 apply wR
 refine asg s rfl rfl fun a s => ?_
 apply wN
 apply wp_block
 refine c_loop (σ := Nat) (fun m3 a w => ∃ (t_75 : Nat), r41_Valid_L2 n t_ t_' m3 t_75 = some r ∧ St (⟨Tryz.f62.ntmps, M, noB, w0⟩ : Ctx) [(1, sl Ap11 (t_') cp11), (2, vP b2 0), (8, vI (((t_75 : Nat) : Int)))] [(1000, Ob.box b2 [vI (t_.Top), vI (t_.Index), sl Ap03 (t_.Vars) cp03, sl Ap04 (t_.Rels) cp04, sl Ap05 (t_.Cons) cp05] 26)] [(101, slF Rep.str (Ap03) ((t_.Vars).length) (cp03) (t_.Vars)), (102, slF REP (Ap04) ((t_.Rels).length) (cp04) (t_.Rels)), (103, slF RQeq (Ap05) ((t_.Cons).length) (cp05) (t_.Cons)), (104, slF (Rep.num .i64) (Ap11) ((t_').length) (cp11) (t_'))] a w) (fun m3 => m3) n ⟨(0), hg, (s.sb rfl rfl rfl)⟩ ?_
 clear s a; rintro m3 a w ⟨t_75, hg, s⟩
 rcases m3 with _ | m3
 ·rw [r41_Valid_L2] at hg; cases hg
 rw [r41_Valid_L2] at hg
 apply wQ
 apply wR
 refine mv s rfl rfl fun a s => ?_
 refine qq s rfl (y_boxField (o' := 3) s rfl underlying26 rfl rfl rfl) fun a s => ?_
 refine qq s rfl (y_loadBox1 (kk := 1000) s rfl rfl rfl underlying23 rfl) fun a s => ?_
 refine qq s rfl (y_lenSlice s rfl underlying23) fun a s => ?_
 refine qq s rfl (y_lssN (i := t_75) (j := ((t_.Rels).length)) s rfl rfl) fun a s => ?_
 apply wN
 refine c_dec s rfl (fun hc76 => ?_) (fun hc76 => ?_)
 ·replace hg := br_t hg hc76
  have hmx77 := SlR.mx (s.ft 102 rfl)
  apply wp_skip
  apply pN
  apply wQ
  apply wp_block
  apply wQ
  obtain ⟨k78, hg, hk78⟩ := jn_some hg
  refine c_post (fun a w => ∃ (t_79 : Bool), k78 t_79 = some r ∧ St (⟨Tryz.f62.ntmps, M, noB, w0⟩ : Ctx) [(1, sl Ap11 (t_') cp11), (2, vP b2 0), (8, vI (((t_75 : Nat) : Int))), (89, .bool (t_79))] [(1000, Ob.box b2 [vI (t_.Top), vI (t_.Index), sl Ap03 (t_.Vars) cp03, sl Ap04 (t_.Rels) cp04, sl Ap05 (t_.Cons) cp05] 26)] [(101, slF Rep.str (Ap03) ((t_.Vars).length) (cp03) (t_.Vars)), (102, slF REP (Ap04) ((t_.Rels).length) (cp04) (t_.Rels)), (103, slF RQeq (Ap05) ((t_.Cons).length) (cp05) (t_.Cons)), (104, slF (Rep.num .i64) (Ap11) ((t_').length) (cp11) (t_'))] a w) ?_ ?_
  ·obtain ⟨x81, hx81, hg⟩ := bind_some hg
   obtain ⟨r83, hr83, hg⟩ := bind_some hg
   rcases Bool.eq_false_or_eq_true (r83) with hs86 | hs86
   ·replace hg := br_t hg hs86
    obtain ⟨r87, hr87, hg⟩ := bind_some hg
    apply wL
    refine qq s rfl (y_boxField (o' := 3) s rfl underlying26 rfl rfl rfl) fun a s => ?_
    refine qq s rfl (y_loadBox1 (kk := 1000) s rfl rfl rfl underlying23 rfl) fun a s => ?_
    refine mv s rfl rfl fun a s => ?_
    obtain ⟨p90, hep90, hpp90⟩ := SlR.elemX (s.ft 102 rfl) hx81
    refine qq s rfl (y_elem (sz := 3) (i := t_75) s rfl rfl underlying23 rfl hep90 rfl (lt_of_get hx81)) fun a s => ?_
    obtain ⟨hlq91, hmq91, csq91, hdq91, hcq91⟩ := hpp90
    obtain ⟨Aq913, cq913, rfl, lq911, hq913⟩ := REP.open hdq91
    replace s := s.ns 113 hq913
    refine qq s rfl (y_ldp s rfl hlq91 hmq91 (by simpa using hcq91) underlying49 rfl rfl) fun a s => ?_
    refine l_seq rfl (l_call (cap := []) s rfl func77 rfl (by kernel_rfl) rfl rfl (c_r41_quantifier n _ _ s.lt x81 (Aq913) (cq913) (by omega) (s.ft 113 rfl) r83 hr83) fun v92 a w hK hp s => ?_)
    obtain rfl := hp.trans (congrArg Value.bool hs86)
    refine mv s rfl rfl fun a s => ?_
    refine gy s rfl (y_loadAll (kk := 1000) s rfl rfl underlying26 rfl rfl) fun a s => ?_
    refine gm s rfl rfl fun a s => ?_
    refine gm s rfl rfl fun a s => ?_
    refine gl s rfl (l_call (cap := []) s rfl func78 rfl (by kernel_rfl) rfl rfl (c_r41_binds n _ _ s.lt t_ (Ap03) (cp03) (Ap04) (cp04) (Ap05) (cp05) (s.ft 101 rfl) (s.ft 102 rfl) (s.ft 103 rfl) t_' (Ap11) (cp11) (s.ft 104 rfl) ((t_75 : Nat) : Int) r87 hr87) fun v94 a w hK hp s => ?_)
    obtain rfl := hp
    refine gy s rfl (y_not s rfl) fun a s => ?_
    refine qq s rfl (y_pick_t s rfl rfl) fun a s => ?_
    apply wN
    exact ⟨(!(r87)), hg, (s.sb rfl rfl rfl)⟩
   replace hg := br_n hg hs86
   apply wL
   refine qq s rfl (y_boxField (o' := 3) s rfl underlying26 rfl rfl rfl) fun a s => ?_
   refine qq s rfl (y_loadBox1 (kk := 1000) s rfl rfl rfl underlying23 rfl) fun a s => ?_
   refine mv s rfl rfl fun a s => ?_
   obtain ⟨p96, hep96, hpp96⟩ := SlR.elemX (s.ft 102 rfl) hx81
   refine qq s rfl (y_elem (sz := 3) (i := t_75) s rfl rfl underlying23 rfl hep96 rfl (lt_of_get hx81)) fun a s => ?_
   obtain ⟨hlq97, hmq97, csq97, hdq97, hcq97⟩ := hpp96
   obtain ⟨Aq973, cq973, rfl, lq971, hq973⟩ := REP.open hdq97
   replace s := s.ns 114 hq973
   refine qq s rfl (y_ldp s rfl hlq97 hmq97 (by simpa using hcq97) underlying49 rfl rfl) fun a s => ?_
   refine l_seq rfl (l_call (cap := []) s rfl func77 rfl (by kernel_rfl) rfl rfl (c_r41_quantifier n _ _ s.lt x81 (Aq973) (cq973) (by omega) (s.ft 114 rfl) r83 hr83) fun v98 a w hK hp s => ?_)
   obtain rfl := hp.trans (congrArg Value.bool hs86)
   refine mv s rfl rfl fun a s => ?_
   refine gn s rfl fun a s => ?_
   refine gn s rfl fun a s => ?_
   refine gn s rfl fun a s => ?_
   refine gn s rfl fun a s => ?_
   refine gn s rfl fun a s => ?_
   refine qq s rfl (y_pick_f s rfl rfl) fun a s => ?_
   apply wN
   exact ⟨(false), hg, (s.sb rfl rfl rfl)⟩
  clear s a; rintro a w ⟨t_79, hg, s⟩
  subst hk78
  refine c_cond s rfl (fun hc100 => ?_) (fun hc100 => ?_)
  ·replace hg := br_t hg hc100
   apply wR
   refine asg s rfl rfl fun a s => ?_
   apply wN
   apply wp_ret
   refine p_inR ?_
   refine p_thenR ?_
   refine p_thenR ?_
   refine p_inR ?_
   refine p_thenR ?_
   obtain rfl := Option.some.inj hg
   refine fin1 (fn := Tryz.f62) s rfl (r_tmp s rfl) ?_
   exact rfl
  replace hg := br_n hg hc100
  apply wp_skip
  refine p_inN ?_
  apply pN
  apply wL
  refine mv s rfl rfl fun a s => ?_
  refine qq s rfl (y_addN (i := t_75) (j := 1) s rfl rfl (in64.2 (by omega))) fun a s => ?_
  refine asg s rfl rfl fun a s => ?_
  apply wN
  exact ⟨m3, Nat.lt_succ_self _, ⟨(t_75 + 1), hg, (s.sb rfl rfl rfl)⟩⟩
 replace hg := br_f hg hc76
 apply wp_exit
 refine p_then ?_
 refine p_then ?_
 refine p_in ?_
 apply pN
 apply wR
 refine asg s rfl rfl fun a s => ?_
 apply wN
 apply wp_ret
 obtain rfl := Option.some.inj hg
 refine fin1 (fn := Tryz.f62) s rfl (r_tmp s rfl) ?_
 exact rfl
set_option maxHeartbeats 400000 in
theorem c_r42_extend (n : Nat) : ∀ (M : Bs) (w0 : World) (hM : ∀ b, M b → b < w0.heap.size) (t_ : MRS) (Ap03 : Option Addr) (cp03 : Nat) (Ap04 : Option Addr) (cp04 : Nat) (Ap05 : Option Addr) (cp05 : Nat) (hp03 : SlR Rep.str M w0 Ap03 (t_.Vars).length cp03 (t_.Vars)) (hp04 : SlR REP M w0 Ap04 (t_.Rels).length cp04 (t_.Rels)) (hp05 : SlR RQeq M w0 Ap05 (t_.Cons).length cp05 (t_.Cons)) (t_' : (List Int)) (Ap11 : Option Addr) (cp11 : Nat) (hp11 : SlR (Rep.num .i64) M w0 Ap11 (t_').length cp11 (t_')) (t_'' : (List Int)) (Ap21 : Option Addr) (cp21 : Nat) (hp21 : SlR (Rep.num .i64) M w0 Ap21 (t_'').length cp21 (t_'')) (t_''' : Int) (r : (List (List Int))) (hg : r42_extend n t_ t_' t_'' t_''' = some r),
    Calls Tryz.prog 38 [.agg #[.int .i64 (t_.Top), .int .i64 (t_.Index), .slice (Ap03) ((t_.Vars).length) (cp03), .slice (Ap04) ((t_.Rels).length) (cp04), .slice (Ap05) ((t_.Cons).length) (cp05)], .slice (Ap11) ((t_').length) (cp11), .slice (Ap21) ((t_'').length) (cp21), .int .i64 (t_''')].toArray w0 (Ret noB w0 fun v w => ∃ (Aa1 : Option Addr), ∃ (ca1 : Nat), v = .slice (Aa1) ((r).length) (ca1) ∧ (SlR (Rep.list (Rep.num .i64)) M w Aa1 (r).length ca1 (r))) := by
 induction n with
 | zero => intros; rename_i hg; rw [r42_extend] at hg; cases hg
 | succ n c_self =>
 intro M w0 hM t_ Ap03 cp03 Ap04 cp04 Ap05 cp05 hp03 hp04 hp05 t_' Ap11 cp11 hp11 t_'' Ap21 cp21 hp21 t_''' r hg
 rw [r42_extend] at hg
 refine enter M noB func38 rfl rfl hM ?_
 intro a s
 replace s := s.es 101 hp03
 replace s := s.es 102 hp04
 replace s := s.es 103 hp05
 replace s := s.es 104 hp11
 replace s := s.es 105 hp21
 apply wR
 refine l_seq rfl (l_box (zs := [vI (t_.Top), vI (t_.Index), sl Ap03 (t_.Vars) cp03, sl Ap04 (t_.Rels) cp04, sl Ap05 (t_.Cons) cp05]) s 1000 rfl rfl rfl rfl fun b2 a w hb hK s => ?_)
 refine asg s rfl rfl fun a s => ?_
 apply wN
 apply wR
 refine l_seq rfl (l_buildEmpty (sz := 1) s 1100 underlying29 rfl rfl rfl fun b4 a w hbb4 hK s => ?_)
 clear hbb4
 refine asg s rfl rfl fun a s => ?_
 apply wN
 apply wQ
 apply wR
 refine mv s rfl rfl fun a s => ?_
 refine qq s rfl (y_lenSlice s rfl underlying35) fun a s => ?_
 refine mv s rfl rfl fun a s => ?_
 refine qq s rfl (y_eql s rfl rfl) fun a s => ?_
 apply wN
 refine c_dec s rfl (fun hc5 => ?_) (fun hc5 => ?_)
 ·replace hg := br_t hg hc5
  apply wQ
  apply wQ
  obtain ⟨r6, hr6, hg⟩ := bind_some hg
  apply wL
  refine qq s rfl (y_loadAll (kk := 1000) s rfl rfl underlying26 rfl rfl) fun a s => ?_
  refine mv s rfl rfl fun a s => ?_
  refine l_seq rfl (l_call (cap := []) s rfl func62 rfl (by kernel_rfl) rfl rfl (c_r41_Valid n _ _ s.lt t_ (Ap03) (cp03) (Ap04) (cp04) (Ap05) (cp05) (s.ft 101 rfl) (s.ft 102 rfl) (s.ft 103 rfl) t_'' (Ap21) (cp21) (s.ft 105 rfl) r6 hr6) fun v9 a w hK hp s => ?_)
  obtain rfl := hp
  refine qq s rfl (y_eql s rfl rfl) fun a s => ?_
  apply wN
  refine c_dec s rfl (fun hc11 => ?_) (fun hc11 => ?_)
  ·replace hg := br_t hg hc11
   obtain ⟨hk13, hg⟩ := chk_some hg
   apply wL
   refine mv s rfl rfl fun a s => ?_
   refine mv s rfl rfl fun a s => ?_
   refine l_seq rfl (l_buildDense (sz := 1) s 1402 rfl rfl rfl underlying29 rfl rfl rfl rfl rfl rfl rfl fun b16 a w hbb16 hK s => ?_)
   clear hbb16
   replace s := s.add 109 (rdF (Rep.list (Rep.num .i64)) ([]) ([])) (RdAll.nil _ _ _)
   replace s := s.add 110 (rdF (Rep.list (Rep.num .i64)) (cellsOfL [sl Ap21 (t_'') cp21]) ([t_''])) (RdAll.cons (by exact ⟨_, _, _, rfl, (s.ft 105 rfl)⟩) (RdAll.nil _ _ _))
   have hs18 := row_src (s.wd.holds 1402 _ rfl) (RdAll.one (s.ft 110 rfl))
   refine l_seq rfl (l_append (sz := 1) (by_ := 24) (N := ([t_'']).length) (ys := cellsOfL [sl Ap21 (t_'') cp21]) s 1100 rfl rfl rfl underlying29 rfl rfl rfl rfl rfl hs18 (by simp) rfl (by have hr := hk13; clear hg; first | omega | (simp only [List.length_append, List.length_cons, List.length_nil] at hr ⊢; omega) | (simp at hr ⊢; omega)) (by have hr := hk13; clear hg; first | omega | (simp only [List.length_append, List.length_cons, List.length_nil] at hr ⊢; omega) | (simp at hr ⊢; omega)) rfl fun Aq17 cq17 a w hA hK s => ?_)
   replace s := s.al 111 110 rfl
   refine asg s rfl rfl fun a s => ?_
   apply wN
   apply wR
   refine mv s rfl rfl fun a s => ?_
   refine asg s rfl rfl fun a s => ?_
   apply wN
   apply wp_ret
   refine p_thenR ?_
   obtain rfl := Option.some.inj hg
   refine fin1 (fn := Tryz.f38) s rfl (r_tmp s rfl) ?_
   exact ⟨(Aq17), (cq17), rfl, (s.rowOut (R := (Rep.list (Rep.num .i64))) (kk := 1100) rfl rfl (s.ft 111 rfl))⟩
  replace hg := br_f hg hc11
  apply wp_skip
  apply pN
  apply wR
  refine mv s rfl rfl fun a s => ?_
  refine asg s rfl rfl fun a s => ?_
  apply wN
  apply wp_ret
  refine p_thenR ?_
  obtain rfl := Option.some.inj hg
  refine fin1 (fn := Tryz.f38) s rfl (r_tmp s rfl) ?_
  replace s := s.add 112 (rdF (Rep.list (Rep.num .i64)) ([]) ([])) (RdAll.nil _ _ _)
  exact ⟨(some ⟨b4, 0, none⟩), (0), rfl, (s.rowOut (R := (Rep.list (Rep.num .i64))) (kk := 1100) rfl rfl (s.ft 112 rfl))⟩
 replace hg := br_f hg hc5
 apply wp_skip
 apply pN
 apply wQ
 apply wR
 refine asg s rfl rfl fun a s => ?_
 apply wN
 apply wp_block
 replace s := s.add 115 (rdF (Rep.list (Rep.num .i64)) ([]) ([])) (RdAll.nil _ _ _)
 replace s := s.al 114 115 rfl
 replace s := s.pk [(1000, 1000), (700113, 1100)] (by decide)
 refine c_loop (σ := Nat) (fun m1 a w => ∃ (t_19 : (List (List Int))) (t_23 : Nat) (A20 : Option Addr) (c21 : Nat) (cs22 : List Value), r42_extend_L0 n t_ t_' t_'' t_''' (r42_extend n) m1 t_19 t_23 = some r ∧ St (⟨Tryz.f38.ntmps, M, noB, w0⟩ : Ctx) [(1, sl Ap11 (t_') cp11), (2, sl Ap21 (t_'') cp21), (3, vI (t_''')), (4, vP b2 0), (9, sl A20 (t_19) c21), (10, vI (((t_23 : Nat) : Int)))] [(1000, Ob.box b2 [vI (t_.Top), vI (t_.Index), sl Ap03 (t_.Vars) cp03, sl Ap04 (t_.Rels) cp04, sl Ap05 (t_.Cons) cp05] 26), (700113, Ob.row (A20) ((t_19).length) (c21) 35 1 (cs22))] [(101, slF Rep.str (Ap03) ((t_.Vars).length) (cp03) (t_.Vars)), (102, slF REP (Ap04) ((t_.Rels).length) (cp04) (t_.Rels)), (103, slF RQeq (Ap05) ((t_.Cons).length) (cp05) (t_.Cons)), (104, slF (Rep.num .i64) (Ap11) ((t_').length) (cp11) (t_')), (105, slF (Rep.num .i64) (Ap21) ((t_'').length) (cp21) (t_'')), (114, rdF (Rep.list (Rep.num .i64)) (cs22) (t_19))] a w) (fun m1 => m1) n ⟨([]), (0), (some ⟨b4, 0, none⟩), (0), ([]), hg, (s.sb rfl rfl rfl)⟩ ?_
 clear s a; rintro m1 a w ⟨t_19, t_23, A20, c21, cs22, hg, s⟩
 rcases m1 with _ | m1
 ·rw [r42_extend_L0] at hg; cases hg
 rw [r42_extend_L0] at hg
 apply wQ
 apply wR
 refine mv s rfl rfl fun a s => ?_
 refine mv s rfl rfl fun a s => ?_
 refine qq s rfl (y_lenSlice s rfl underlying35) fun a s => ?_
 refine qq s rfl (y_lssN (i := t_23) (j := ((t_').length)) s rfl rfl) fun a s => ?_
 apply wN
 refine c_dec s rfl (fun hc24 => ?_) (fun hc24 => ?_)
 ·replace hg := br_t hg hc24
  have hmx25 := SlR.mx (s.ft 104 rfl)
  apply wp_skip
  apply pN
  apply wQ
  obtain ⟨k26, hg, hk26⟩ := jn_some hg
  refine c_post (fun a w => ∃ (t_27 : (List (List Int))) (A28 : Option Addr) (c29 : Nat) (cs30 : List Value), k26 t_27 = some r ∧ St (⟨Tryz.f38.ntmps, M, noB, w0⟩ : Ctx) [(1, sl Ap11 (t_') cp11), (2, sl Ap21 (t_'') cp21), (3, vI (t_''')), (4, vP b2 0), (9, sl A28 (t_27) c29), (10, vI (((t_23 : Nat) : Int)))] [(1000, Ob.box b2 [vI (t_.Top), vI (t_.Index), sl Ap03 (t_.Vars) cp03, sl Ap04 (t_.Rels) cp04, sl Ap05 (t_.Cons) cp05] 26), (700116, Ob.row (A28) ((t_27).length) (c29) 35 1 (cs30))] [(101, slF Rep.str (Ap03) ((t_.Vars).length) (cp03) (t_.Vars)), (102, slF REP (Ap04) ((t_.Rels).length) (cp04) (t_.Rels)), (103, slF RQeq (Ap05) ((t_.Cons).length) (cp05) (t_.Cons)), (104, slF (Rep.num .i64) (Ap11) ((t_').length) (cp11) (t_')), (105, slF (Rep.num .i64) (Ap21) ((t_'').length) (cp21) (t_'')), (117, rdF (Rep.list (Rep.num .i64)) (cs30) (t_27))] a w) ?_ ?_
  ·apply wp_block
   apply wQ
   apply wQ
   obtain ⟨x32, hx32, hg⟩ := bind_some hg
   obtain ⟨r34, hr34, hg⟩ := bind_some hg
   apply wL
   refine mv s rfl rfl fun a s => ?_
   refine mv s rfl rfl fun a s => ?_
   refine mv s rfl rfl fun a s => ?_
   obtain ⟨p37, hep37, hpp37⟩ := SlR.elemX (s.ft 104 rfl) hx32
   refine qq s rfl (y_elem (sz := 1) (i := t_23) s rfl rfl underlying35 rfl hep37 rfl (lt_of_get hx32)) fun a s => ?_
   obtain ⟨hlq38, hmq38, csq38, hdq38, hcq38⟩ := hpp37
   obtain rfl := hdq38
   refine qq s rfl (y_ldp1 s rfl hlq38 hmq38 (hcq38 0 _ rfl) underlying3 rfl) fun a s => ?_
   refine l_seq rfl (l_call (cap := []) s rfl func37 rfl (by kernel_rfl) rfl rfl (c_r41_Has n _ _ s.lt t_'' (Ap21) (cp21) (s.ft 105 rfl) x32 r34 hr34) fun v39 a w hK hp s => ?_)
   obtain rfl := hp
   apply wN
   refine c_cond s rfl (fun hc41 => ?_) (fun hc41 => ?_)
   ·replace hg := br_t hg hc41
    apply wp_exit
    refine p_then ?_
    refine p_in ?_
    apply pN
    replace s := s.al 117 114 rfl
    replace s := s.pk [(1000, 1000), (700116, 700113)] (by decide)
    exact ⟨(t_19), (A20), (c21), (cs22), hg, (s.sb rfl rfl rfl)⟩
   replace hg := br_n hg hc41
   apply wp_skip
   apply pN
   apply wR
   refine l_seq rfl (l_buildEmpty (sz := 1) s 2000 underlying35 rfl rfl rfl fun b43 a w hbb43 hK s => ?_)
   clear hbb43
   refine asg s rfl rfl fun a s => ?_
   apply wN
   apply wQ
   apply wR
   refine asg s rfl rfl fun a s => ?_
   apply wN
   obtain ⟨k44, hg, hk44⟩ := jn_some hg
   refine c_post (fun a w => ∃ (t_45 : (List Int)) (A46 : Option Addr) (c47 : Nat) (cs48 : List Value), k44 t_45 = some r ∧ St (⟨Tryz.f38.ntmps, M, noB, w0⟩ : Ctx) [(1, sl Ap11 (t_') cp11), (2, sl Ap21 (t_'') cp21), (3, vI (t_''')), (4, vP b2 0), (9, sl A20 (t_19) c21), (10, vI (((t_23 : Nat) : Int))), (11, sl A46 (t_45) c47)] [(1000, Ob.box b2 [vI (t_.Top), vI (t_.Index), sl Ap03 (t_.Vars) cp03, sl Ap04 (t_.Rels) cp04, sl Ap05 (t_.Cons) cp05] 26), (700113, Ob.row (A20) ((t_19).length) (c21) 35 1 (cs22)), (700118, Ob.row (A46) ((t_45).length) (c47) 3 1 (cs48))] [(101, slF Rep.str (Ap03) ((t_.Vars).length) (cp03) (t_.Vars)), (102, slF REP (Ap04) ((t_.Rels).length) (cp04) (t_.Rels)), (103, slF RQeq (Ap05) ((t_.Cons).length) (cp05) (t_.Cons)), (104, slF (Rep.num .i64) (Ap11) ((t_').length) (cp11) (t_')), (105, slF (Rep.num .i64) (Ap21) ((t_'').length) (cp21) (t_'')), (114, rdF (Rep.list (Rep.num .i64)) (cs22) (t_19)), (119, rdF (Rep.num .i64) (cs48) (t_45))] a w) ?_ ?_
   ·apply wp_block
    replace s := s.add 122 (rdF (Rep.num .i64) ([]) ([])) (RdAll.nil _ _ _)
    replace s := s.al 121 122 rfl
    replace s := s.pk [(1000, 1000), (700113, 700113), (700120, 2000)] (by decide)
    refine c_loop (σ := Nat) (fun m2 a w => ∃ (t_49 : (List Int)) (t_53 : Nat) (A50 : Option Addr) (c51 : Nat) (cs52 : List Value), r42_extend_L1 n t_'' k44 m2 t_49 t_53 = some r ∧ St (⟨Tryz.f38.ntmps, M, noB, w0⟩ : Ctx) [(1, sl Ap11 (t_') cp11), (2, sl Ap21 (t_'') cp21), (3, vI (t_''')), (4, vP b2 0), (9, sl A20 (t_19) c21), (10, vI (((t_23 : Nat) : Int))), (11, sl A50 (t_49) c51), (12, vI (((t_53 : Nat) : Int)))] [(1000, Ob.box b2 [vI (t_.Top), vI (t_.Index), sl Ap03 (t_.Vars) cp03, sl Ap04 (t_.Rels) cp04, sl Ap05 (t_.Cons) cp05] 26), (700113, Ob.row (A20) ((t_19).length) (c21) 35 1 (cs22)), (700120, Ob.row (A50) ((t_49).length) (c51) 3 1 (cs52))] [(101, slF Rep.str (Ap03) ((t_.Vars).length) (cp03) (t_.Vars)), (102, slF REP (Ap04) ((t_.Rels).length) (cp04) (t_.Rels)), (103, slF RQeq (Ap05) ((t_.Cons).length) (cp05) (t_.Cons)), (104, slF (Rep.num .i64) (Ap11) ((t_').length) (cp11) (t_')), (105, slF (Rep.num .i64) (Ap21) ((t_'').length) (cp21) (t_'')), (114, rdF (Rep.list (Rep.num .i64)) (cs22) (t_19)), (121, rdF (Rep.num .i64) (cs52) (t_49))] a w) (fun m2 => m2) n ⟨([]), (0), (some ⟨b43, 0, none⟩), (0), ([]), hg, (s.sb rfl rfl rfl)⟩ ?_
    clear s a; rintro m2 a w ⟨t_49, t_53, A50, c51, cs52, hg, s⟩
    rcases m2 with _ | m2
    ·rw [r42_extend_L1] at hg; cases hg
    rw [r42_extend_L1] at hg
    apply wQ
    apply wR
    refine mv s rfl rfl fun a s => ?_
    refine mv s rfl rfl fun a s => ?_
    refine qq s rfl (y_lenSlice s rfl underlying35) fun a s => ?_
    refine qq s rfl (y_lssN (i := t_53) (j := ((t_'').length)) s rfl rfl) fun a s => ?_
    apply wN
    refine c_dec s rfl (fun hc54 => ?_) (fun hc54 => ?_)
    ·replace hg := br_t hg hc54
     have hmx55 := SlR.mx (s.ft 105 rfl)
     apply wp_skip
     apply pN
     apply wQ
     apply wp_block
     obtain ⟨x57, hx57, hg⟩ := bind_some hg
     obtain ⟨hk60, hg⟩ := chk_some hg
     apply wL
     refine mv s rfl rfl fun a s => ?_
     refine mv s rfl rfl fun a s => ?_
     refine mv s rfl rfl fun a s => ?_
     obtain ⟨p63, hep63, hpp63⟩ := SlR.elemX (s.ft 105 rfl) hx57
     refine qq s rfl (y_elem (sz := 1) (i := t_53) s rfl rfl underlying35 rfl hep63 rfl (lt_of_get hx57)) fun a s => ?_
     obtain ⟨hlq64, hmq64, csq64, hdq64, hcq64⟩ := hpp63
     obtain rfl := hdq64
     refine qq s rfl (y_ldp1 s rfl hlq64 hmq64 (hcq64 0 _ rfl) underlying3 rfl) fun a s => ?_
     refine l_seq rfl (l_buildDense (sz := 1) s 2405 rfl rfl rfl underlying35 rfl rfl rfl rfl rfl rfl rfl fun b65 a w hbb65 hK s => ?_)
     clear hbb65
     replace s := s.add 125 (rdF (Rep.num .i64) (cellsOfL [vI x57]) ([x57])) (RdAll.cons (by exact rfl) (RdAll.nil _ _ _))
     have hs67 := row_src (s.wd.holds 2405 _ rfl) (RdAll.one (s.ft 125 rfl))
     refine l_seq rfl (l_append (sz := 1) (by_ := 8) (N := (t_49 ++ [x57]).length) (ys := cs52 ++ (cellsOfL [vI x57])) s 700120 rfl rfl rfl underlying35 rfl rfl rfl rfl rfl hs67 (by simp) rfl (by have hr := hk60; clear hg; first | omega | (simp only [List.length_append, List.length_cons, List.length_nil] at hr ⊢; omega) | (simp at hr ⊢; omega)) (by have hr := hk60; clear hg; first | omega | (simp only [List.length_append, List.length_cons, List.length_nil] at hr ⊢; omega) | (simp at hr ⊢; omega)) rfl fun Aq66 cq66 a w hA hK s => ?_)
     replace s := s.add 126 (rdF (Rep.num .i64) (cs52 ++ (cellsOfL [vI x57])) (t_49 ++ [x57])) (RdAll.append (s.ft 121 rfl) (s.ft 125 rfl))
     refine asg s rfl rfl fun a s => ?_
     apply wO
     refine p_inN ?_
     apply pN
     apply wL
     refine mv s rfl rfl fun a s => ?_
     refine qq s rfl (y_addN (i := t_53) (j := 1) s rfl rfl (in64.2 (by omega))) fun a s => ?_
     refine asg s rfl rfl fun a s => ?_
     apply wN
     replace s := s.al 121 126 rfl
     exact ⟨m2, Nat.lt_succ_self _, ⟨(t_49 ++ [x57]), (t_53 + 1), (Aq66), (cq66), (cs52 ++ (cellsOfL [vI x57])), hg, (s.sb rfl rfl rfl)⟩⟩
    replace hg := br_f hg hc54
    apply wp_exit
    refine p_then ?_
    refine p_then ?_
    refine p_in ?_
    apply pN
    replace s := s.al 119 121 rfl
    replace s := s.pk [(1000, 1000), (700113, 700113), (700118, 700120)] (by decide)
    exact ⟨(t_49), (A50), (c51), (cs52), hg, (s.sb rfl rfl rfl)⟩
   clear s a; rintro a w ⟨t_45, A46, c47, cs48, hg, s⟩
   subst hk44
   apply wQ
   obtain ⟨hk71, hg⟩ := chk_some hg
   apply wL
   refine mv s rfl rfl fun a s => ?_
   refine mv s rfl rfl fun a s => ?_
   refine mv s rfl rfl fun a s => ?_
   obtain ⟨p74, hep74, hpp74⟩ := SlR.elemX (s.ft 104 rfl) hx32
   refine qq s rfl (y_elem (sz := 1) (i := t_23) s rfl rfl underlying35 rfl hep74 rfl (lt_of_get hx32)) fun a s => ?_
   obtain ⟨hlq75, hmq75, csq75, hdq75, hcq75⟩ := hpp74
   obtain rfl := hdq75
   refine qq s rfl (y_ldp1 s rfl hlq75 hmq75 (hcq75 0 _ rfl) underlying3 rfl) fun a s => ?_
   refine l_seq rfl (l_buildDense (sz := 1) s 2505 rfl rfl rfl underlying35 rfl rfl rfl rfl rfl rfl rfl fun b76 a w hbb76 hK s => ?_)
   clear hbb76
   replace s := s.add 129 (rdF (Rep.num .i64) (cellsOfL [vI x32]) ([x32])) (RdAll.cons (by exact rfl) (RdAll.nil _ _ _))
   have hs78 := row_src (s.wd.holds 2505 _ rfl) (RdAll.one (s.ft 129 rfl))
   refine l_seq rfl (l_append (sz := 1) (by_ := 8) (N := (t_45 ++ [x32]).length) (ys := cs48 ++ (cellsOfL [vI x32])) s 700118 rfl rfl rfl underlying35 rfl rfl rfl rfl rfl hs78 (by simp) rfl (by have hr := hk71; clear hg; first | omega | (simp only [List.length_append, List.length_cons, List.length_nil] at hr ⊢; omega) | (simp at hr ⊢; omega)) (by have hr := hk71; clear hg; first | omega | (simp only [List.length_append, List.length_cons, List.length_nil] at hr ⊢; omega) | (simp at hr ⊢; omega)) rfl fun Aq77 cq77 a w hA hK s => ?_)
   replace s := s.add 130 (rdF (Rep.num .i64) (cs48 ++ (cellsOfL [vI x32])) (t_45 ++ [x32])) (RdAll.append (s.ft 119 rfl) (s.ft 129 rfl))
   refine asg s rfl rfl fun a s => ?_
   apply wN
   apply wQ
   obtain ⟨r79, hr79, hg⟩ := bind_some hg
   apply wL
   refine qq s rfl (y_loadAll (kk := 1000) s rfl rfl underlying26 rfl rfl) fun a s => ?_
   refine mv s rfl rfl fun a s => ?_
   refine mv s rfl rfl fun a s => ?_
   refine mv s rfl rfl fun a s => ?_
   replace s := s.freeze (R := (Rep.num .i64)) (kk := 700118) (L' := [(1000, Ob.box b2 [vI (t_.Top), vI (t_.Index), sl Ap03 (t_.Vars) cp03, sl Ap04 (t_.Rels) cp04, sl Ap05 (t_.Cons) cp05] 26), (2505, Ob.row (some ⟨b76, 0, none⟩) (1) (1) 3 1 (cellsOfL [vI x32])), (700113, Ob.row (A20) ((t_19).length) (c21) 35 1 (cs22))]) 133 rfl rfl (s.ft 130 rfl) ⟨rfl, rfl, rfl, trivial⟩ rfl
   refine l_seq rfl (l_call (cap := []) s rfl func38 rfl (by kernel_rfl) rfl rfl (c_self _ _ s.lt t_ (Ap03) (cp03) (Ap04) (cp04) (Ap05) (cp05) (s.ft 101 rfl) (s.ft 102 rfl) (s.ft 103 rfl) t_' (Ap11) (cp11) (s.ft 104 rfl) (t_45 ++ [x32]) (Aq77) (cq77) (s.ft 133 rfl) t_''' r79 hr79) fun v82 a w hK hp s => ?_)
   obtain ⟨Au83a1, cu83a1, rfl, hu83a1⟩ := hp
   replace s := s.ns 134 hu83a1
   refine asg s rfl rfl fun a s => ?_
   apply wN
   apply wR
   refine asg s rfl rfl fun a s => ?_
   apply wN
   apply wp_block
   replace s := s.al 136 114 rfl
   replace s := s.pk [(1000, 1000), (2505, 2505), (700135, 700113)] (by decide)
   refine c_loop (σ := Nat) (fun m3 a w => ∃ (t_84 : (List (List Int))) (t_88 : Nat) (A85 : Option Addr) (c86 : Nat) (cs87 : List Value), r42_extend_L2 n k26 r79 m3 t_84 t_88 = some r ∧ St (⟨Tryz.f38.ntmps, M, noB, w0⟩ : Ctx) [(1, sl Ap11 (t_') cp11), (2, sl Ap21 (t_'') cp21), (3, vI (t_''')), (4, vP b2 0), (9, sl A85 (t_84) c86), (10, vI (((t_23 : Nat) : Int))), (13, sl Au83a1 (r79) cu83a1), (14, vI (((t_88 : Nat) : Int)))] [(1000, Ob.box b2 [vI (t_.Top), vI (t_.Index), sl Ap03 (t_.Vars) cp03, sl Ap04 (t_.Rels) cp04, sl Ap05 (t_.Cons) cp05] 26), (700135, Ob.row (A85) ((t_84).length) (c86) 35 1 (cs87))] [(101, slF Rep.str (Ap03) ((t_.Vars).length) (cp03) (t_.Vars)), (102, slF REP (Ap04) ((t_.Rels).length) (cp04) (t_.Rels)), (103, slF RQeq (Ap05) ((t_.Cons).length) (cp05) (t_.Cons)), (104, slF (Rep.num .i64) (Ap11) ((t_').length) (cp11) (t_')), (105, slF (Rep.num .i64) (Ap21) ((t_'').length) (cp21) (t_'')), (134, slF (Rep.list (Rep.num .i64)) (Au83a1) ((r79).length) (cu83a1) (r79)), (136, rdF (Rep.list (Rep.num .i64)) (cs87) (t_84))] a w) (fun m3 => m3) n ⟨(t_19), (0), (A20), (c21), (cs22), hg, (s.sb rfl rfl rfl)⟩ ?_
   clear s a; rintro m3 a w ⟨t_84, t_88, A85, c86, cs87, hg, s⟩
   rcases m3 with _ | m3
   ·rw [r42_extend_L2] at hg; cases hg
   rw [r42_extend_L2] at hg
   apply wQ
   apply wR
   refine mv s rfl rfl fun a s => ?_
   refine mv s rfl rfl fun a s => ?_
   refine qq s rfl (y_lenSlice s rfl underlying29) fun a s => ?_
   refine qq s rfl (y_lssN (i := t_88) (j := ((r79).length)) s rfl rfl) fun a s => ?_
   apply wN
   refine c_dec s rfl (fun hc89 => ?_) (fun hc89 => ?_)
   ·replace hg := br_t hg hc89
    have hmx90 := SlR.mx (s.ft 134 rfl)
    apply wp_skip
    apply pN
    apply wQ
    apply wp_block
    obtain ⟨x92, hx92, hg⟩ := bind_some hg
    obtain ⟨hk95, hg⟩ := chk_some hg
    apply wL
    refine mv s rfl rfl fun a s => ?_
    refine mv s rfl rfl fun a s => ?_
    refine mv s rfl rfl fun a s => ?_
    obtain ⟨p98, hep98, hpp98⟩ := SlR.elemX (s.ft 134 rfl) hx92
    refine qq s rfl (y_elem (sz := 1) (i := t_88) s rfl rfl underlying29 rfl hep98 rfl (lt_of_get hx92)) fun a s => ?_
    obtain ⟨hlq99, hmq99, csq99, hdq99, hcq99⟩ := hpp98
    obtain ⟨Aq991, nnq99, cq991, rfl, hq991⟩ := hdq99
    obtain rfl := hq991.len
    replace s := s.ns 140 hq991
    refine qq s rfl (y_ldp1 s rfl hlq99 hmq99 (hcq99 0 _ rfl) underlying35 rfl) fun a s => ?_
    refine l_seq rfl (l_buildDense (sz := 1) s 3005 rfl rfl rfl underlying29 rfl rfl rfl rfl rfl rfl rfl fun b100 a w hbb100 hK s => ?_)
    clear hbb100
    replace s := s.add 141 (rdF (Rep.list (Rep.num .i64)) (cellsOfL [sl Aq991 (x92) cq991]) ([x92])) (RdAll.cons (by exact ⟨_, _, _, rfl, (s.ft 140 rfl)⟩) (RdAll.nil _ _ _))
    have hs102 := row_src (s.wd.holds 3005 _ rfl) (RdAll.one (s.ft 141 rfl))
    refine l_seq rfl (l_append (sz := 1) (by_ := 24) (N := (t_84 ++ [x92]).length) (ys := cs87 ++ (cellsOfL [sl Aq991 (x92) cq991])) s 700135 rfl rfl rfl underlying29 rfl rfl rfl rfl rfl hs102 (by simp) rfl (by have hr := hk95; clear hg; first | omega | (simp only [List.length_append, List.length_cons, List.length_nil] at hr ⊢; omega) | (simp at hr ⊢; omega)) (by have hr := hk95; clear hg; first | omega | (simp only [List.length_append, List.length_cons, List.length_nil] at hr ⊢; omega) | (simp at hr ⊢; omega)) rfl fun Aq101 cq101 a w hA hK s => ?_)
    replace s := s.add 142 (rdF (Rep.list (Rep.num .i64)) (cs87 ++ (cellsOfL [sl Aq991 (x92) cq991])) (t_84 ++ [x92])) (RdAll.append (s.ft 136 rfl) (s.ft 141 rfl))
    refine asg s rfl rfl fun a s => ?_
    apply wO
    refine p_inN ?_
    apply pN
    apply wL
    refine mv s rfl rfl fun a s => ?_
    refine qq s rfl (y_addN (i := t_88) (j := 1) s rfl rfl (in64.2 (by omega))) fun a s => ?_
    refine asg s rfl rfl fun a s => ?_
    apply wN
    replace s := s.add 136 (rdF (Rep.list (Rep.num .i64)) (cs87 ++ (cellsOfL [sl Aq991 (x92) cq991])) (t_84 ++ [x92])) (s.ft 142 rfl)
    exact ⟨m3, Nat.lt_succ_self _, ⟨(t_84 ++ [x92]), (t_88 + 1), (Aq101), (cq101), (cs87 ++ (cellsOfL [sl Aq991 (x92) cq991])), hg, (s.sb rfl rfl rfl)⟩⟩
   replace hg := br_f hg hc89
   apply wp_exit
   refine p_then ?_
   refine p_then ?_
   refine p_in ?_
   refine p_inN ?_
   apply pN
   replace s := s.al 117 136 rfl
   replace s := s.pk [(1000, 1000), (700116, 700135)] (by decide)
   exact ⟨(t_84), (A85), (c86), (cs87), hg, (s.sb rfl rfl rfl)⟩
  clear s a; rintro a w ⟨t_27, A28, c29, cs30, hg, s⟩
  subst hk26
  apply wL
  refine mv s rfl rfl fun a s => ?_
  refine qq s rfl (y_addN (i := t_23) (j := 1) s rfl rfl (in64.2 (by omega))) fun a s => ?_
  refine asg s rfl rfl fun a s => ?_
  apply wN
  replace s := s.al 114 117 rfl
  replace s := s.pk [(1000, 1000), (700113, 700116)] (by decide)
  exact ⟨m1, Nat.lt_succ_self _, ⟨(t_27), (t_23 + 1), (A28), (c29), (cs30), hg, (s.sb rfl rfl rfl)⟩⟩
 replace hg := br_f hg hc24
 apply wp_exit
 refine p_then ?_
 refine p_then ?_
 refine p_in ?_
 apply pN
 apply wR
 refine mv s rfl rfl fun a s => ?_
 refine asg s rfl rfl fun a s => ?_
 apply wN
 apply wp_ret
 obtain rfl := Option.some.inj hg
 refine fin1 (fn := Tryz.f38) s rfl (r_tmp s rfl) ?_
 exact ⟨(A20), (c21), rfl, (s.rowOut (R := (Rep.list (Rep.num .i64))) (kk := 700113) rfl rfl (s.ft 114 rfl))⟩
set_option maxHeartbeats 400000 in
theorem c_r42_Every (n : Nat) (M : Bs) (w0 : World) (hM : ∀ b, M b → b < w0.heap.size) (m_ : MRS) (Ap03 : Option Addr) (cp03 : Nat) (Ap04 : Option Addr) (cp04 : Nat) (Ap05 : Option Addr) (cp05 : Nat) (hp03 : SlR Rep.str M w0 Ap03 (m_.Vars).length cp03 (m_.Vars)) (hp04 : SlR REP M w0 Ap04 (m_.Rels).length cp04 (m_.Rels)) (hp05 : SlR RQeq M w0 Ap05 (m_.Cons).length cp05 (m_.Cons)) (r : (List (List Int))) (hg : r42_Every n m_ = some r) :
    Calls Tryz.prog 21 [.agg #[.int .i64 (m_.Top), .int .i64 (m_.Index), .slice (Ap03) ((m_.Vars).length) (cp03), .slice (Ap04) ((m_.Rels).length) (cp04), .slice (Ap05) ((m_.Cons).length) (cp05)]].toArray w0 (Ret noB w0 fun v w => ∃ (Aa1 : Option Addr), ∃ (ca1 : Nat), v = .slice (Aa1) ((r).length) (ca1) ∧ (SlR (Rep.list (Rep.num .i64)) M w Aa1 (r).length ca1 (r))) := by
 unfold r42_Every at hg
 refine enter M noB func21 rfl rfl hM ?_
 intro a s
 replace s := s.es 101 hp03
 replace s := s.es 102 hp04
 replace s := s.es 103 hp05
 apply wR
 refine l_seq rfl (l_box (zs := [vI (m_.Top), vI (m_.Index), sl Ap03 (m_.Vars) cp03, sl Ap04 (m_.Rels) cp04, sl Ap05 (m_.Cons) cp05]) s 1000 rfl rfl rfl rfl fun b2 a w hb hK s => ?_)
 refine asg s rfl rfl fun a s => ?_
 apply wN
 apply wQ
 obtain ⟨r3, hr3, hg⟩ := bind_some hg
 obtain ⟨r6, hr6, hg⟩ := bind_some hg
 obtain ⟨r9, hr9, hg⟩ := bind_some hg
 refine d_plan s [] [(0, some 1000), (1, some 1000), (3, some 1000), (2, none), (4, none), (5, none), (6, none), (7, none)] rfl (by kernel_rfl) (by kernel_rfl) rfl ?_; clear s; intro wr hZ s; have hR := s.wd
 refine qt s hR rfl (y_loadAll (kk := 1000) s rfl rfl underlying26 rfl rfl) fun a s => ?_
 refine qt s hR rfl (y_loadAll (kk := 1000) s rfl rfl underlying26 rfl rfl) fun a s => ?_
 refine qt s hR rfl (y_loadAll (kk := 1000) s rfl rfl underlying26 rfl rfl) fun a s => ?_
 refine l_take s rfl rfl (l_call (cap := []) s rfl func35 rfl (by kernel_rfl) rfl rfl (c_r41_Labels n _ _ s.lt m_ (Ap03) (cp03) (Ap04) (cp04) (Ap05) (cp05) (s.ft 101 rfl) (s.ft 102 rfl) (s.ft 103 rfl) r3 hr3) fun v12 a w hK hp s => ?_)
 replace hZ := Nat.le_trans hZ hK.size; refine ⟨fun g _ h => h.grow hK, ?_⟩; clear hK
 obtain ⟨Au13a1, cu13a1, rfl, hu13a1⟩ := hp
 replace s := s.ns 107 hu13a1
 refine l_take s rfl rfl (l_call (cap := []) s rfl func20 rfl (by kernel_rfl) rfl rfl (c_r41_Holes n _ _ s.lt m_ (Ap03) (cp03) (Ap04) (cp04) (Ap05) (cp05) (s.ft 101 rfl) (s.ft 102 rfl) (s.ft 103 rfl) r6 hr6) fun v14 a w hK hp s => ?_)
 replace hZ := Nat.le_trans hZ hK.size; refine ⟨fun g _ h => h.grow hK, ?_⟩; clear hK
 obtain ⟨Au15a1, cu15a1, rfl, hu15a1⟩ := hp
 replace s := s.ns 108 hu15a1
 refine l_take s rfl rfl (l_quiet s rfl rfl (y_lenSlice s rfl underlying35) fun a s => ?_); refine ⟨fun g _ h => h, ?_⟩
 refine l_take s rfl rfl (l_call (cap := []) s rfl func38 rfl (by kernel_rfl) rfl rfl (c_r42_extend n _ _ s.lt m_ (Ap03) (cp03) (Ap04) (cp04) (Ap05) (cp05) (s.ft 101 rfl) (s.ft 102 rfl) (s.ft 103 rfl) r3 (Au13a1) (cu13a1) (s.ft 107 rfl) [] (none) (0) (SlR.nil_ _ _ _) (((r6).length : Nat) : Int) r9 hr9) fun v16 a w hK hp s => ?_)
 replace hZ := Nat.le_trans hZ hK.size; refine ⟨fun g _ h => h.grow hK, ?_⟩; clear hK
 obtain ⟨Au17a1, cu17a1, rfl, hu17a1⟩ := hp
 replace s := s.ns 109 hu17a1
 refine l_take s rfl rfl (l_quiet s rfl rfl (y_assign s rfl) fun a s => ?_); refine ⟨fun g _ h => h, ?_⟩
 clear hR hZ
 apply pN
 apply wp_ret
 obtain rfl := Option.some.inj hg
 refine fin1 (fn := Tryz.f21) s rfl (r_tmp s rfl) ?_
 exact ⟨(Au17a1), (cu17a1), rfl, (s.out (k := 109) rfl)⟩
set_option maxHeartbeats 400000 in
theorem c_r42_All (n : Nat) (M : Bs) (w0 : World) (hM : ∀ b, M b → b < w0.heap.size) (m_ : MRS) (Ap03 : Option Addr) (cp03 : Nat) (Ap04 : Option Addr) (cp04 : Nat) (Ap05 : Option Addr) (cp05 : Nat) (hp03 : SlR Rep.str M w0 Ap03 (m_.Vars).length cp03 (m_.Vars)) (hp04 : SlR REP M w0 Ap04 (m_.Rels).length cp04 (m_.Rels)) (hp05 : SlR RQeq M w0 Ap05 (m_.Cons).length cp05 (m_.Cons)) (most_ : Int) (r : ((List (List Int)) × Bool × Int)) (hg : r42_All n m_ most_ = some r) :
    Calls Tryz.prog 8 [.agg #[.int .i64 (m_.Top), .int .i64 (m_.Index), .slice (Ap03) ((m_.Vars).length) (cp03), .slice (Ap04) ((m_.Rels).length) (cp04), .slice (Ap05) ((m_.Cons).length) (cp05)], .int .i64 (most_)].toArray w0 (Ret noB w0 fun v w => ∃ (Aa1 : Option Addr), ∃ (ca1 : Nat), v = .tuple #[.slice (Aa1) ((r.1).length) (ca1), .bool (r.2.1), .int .i64 (r.2.2)] ∧ (SlR (Rep.list (Rep.num .i64)) M w Aa1 (r.1).length ca1 (r.1))) := by
 unfold r42_All at hg
 refine enter M noB func8 rfl rfl hM ?_
 intro a s
 replace s := s.es 101 hp03
 replace s := s.es 102 hp04
 replace s := s.es 103 hp05
 apply wR
 refine l_seq rfl (l_box (zs := [vI (m_.Top), vI (m_.Index), sl Ap03 (m_.Vars) cp03, sl Ap04 (m_.Rels) cp04, sl Ap05 (m_.Cons) cp05]) s 1000 rfl rfl rfl rfl fun b2 a w hb hK s => ?_)
 refine asg s rfl rfl fun a s => ?_
 refine asg s rfl rfl fun a s => ?_
 refine asg s rfl rfl fun a s => ?_
 apply wN
 apply wQ
 apply wR
 refine mv s rfl rfl fun a s => ?_
 refine qq s rfl (y_lss s rfl rfl) fun a s => ?_
 apply wN
 refine c_dec s rfl (fun hc3 => ?_) (fun hc3 => ?_)
 ·replace hg := br_t hg hc3
  apply wR
  refine asg s rfl rfl fun a s => ?_
  refine asg s rfl rfl fun a s => ?_
  refine asg s rfl rfl fun a s => ?_
  apply wN
  apply wp_ret
  refine p_thenR ?_
  obtain rfl := Option.some.inj hg
  refine fin3 (fn := Tryz.f8) s rfl (r_tmp s rfl) (r_tmp s rfl) (r_tmp s rfl) ?_
  exact ⟨(none), (0), rfl, (SlR.nil_ _ _ _)⟩
 replace hg := br_f hg hc3
 apply wp_skip
 apply pN
 apply wQ
 apply wQ
 obtain ⟨r4, hr4, hg⟩ := bind_some hg
 apply wL
 refine qq s rfl (y_loadAll (kk := 1000) s rfl rfl underlying26 rfl rfl) fun a s => ?_
 refine l_seq rfl (l_call (cap := []) s rfl func20 rfl (by kernel_rfl) rfl rfl (c_r41_Holes n _ _ s.lt m_ (Ap03) (cp03) (Ap04) (cp04) (Ap05) (cp05) (s.ft 101 rfl) (s.ft 102 rfl) (s.ft 103 rfl) r4 hr4) fun v7 a w hK hp s => ?_)
 obtain ⟨Au8a1, cu8a1, rfl, hu8a1⟩ := hp
 replace s := s.ns 105 hu8a1
 refine qq s rfl (y_lenSlice s rfl underlying35) fun a s => ?_
 refine qq s rfl (y_gtrN (i := ((r4).length)) (j := 6) s rfl rfl) fun a s => ?_
 apply wN
 refine c_dec s rfl (fun hc9 => ?_) (fun hc9 => ?_)
 ·replace hg := br_t hg hc9
  have hmx10 := SlR.mx (s.ft 105 rfl)
  apply wR
  refine asg s rfl rfl fun a s => ?_
  refine asg s rfl rfl fun a s => ?_
  refine asg s rfl rfl fun a s => ?_
  apply wN
  apply wp_ret
  refine p_thenR ?_
  obtain rfl := Option.some.inj hg
  refine fin3 (fn := Tryz.f8) s rfl (r_tmp s rfl) (r_tmp s rfl) (r_tmp s rfl) ?_
  exact ⟨(none), (0), rfl, (SlR.nil_ _ _ _)⟩
 replace hg := br_f hg hc9
 apply wp_skip
 apply pN
 apply wQ
 obtain ⟨r11, hr11, hg⟩ := bind_some hg
 apply wL
 refine qq s rfl (y_loadAll (kk := 1000) s rfl rfl underlying26 rfl rfl) fun a s => ?_
 refine l_seq rfl (l_call (cap := []) s rfl func21 rfl (by kernel_rfl) rfl rfl (c_r42_Every n _ _ s.lt m_ (Ap03) (cp03) (Ap04) (cp04) (Ap05) (cp05) (s.ft 101 rfl) (s.ft 102 rfl) (s.ft 103 rfl) r11 hr11) fun v14 a w hK hp s => ?_)
 obtain ⟨Au15a1, cu15a1, rfl, hu15a1⟩ := hp
 replace s := s.ns 107 hu15a1
 refine asg s rfl rfl fun a s => ?_
 apply wN
 apply wQ
 apply wQ
 obtain ⟨k16, hg, hk16⟩ := jn_some hg
 refine c_post (fun a w => ∃ (t_17 : Bool), k16 t_17 = some r ∧ St (⟨Tryz.f8.ntmps, M, noB, w0⟩ : Ctx) [(1, vI most_), (7, sl Au15a1 (r11) cu15a1), (23, .bool (t_17))] [] [(107, slF (Rep.list (Rep.num .i64)) (Au15a1) ((r11).length) (cu15a1) (r11))] a w) ?_ ?_
 ·rcases Decidable.em ((0 : Int) < most_) with hs18 | hs18
  ·have hs18e := decide_eq_true hs18
   replace hg := br_t hg hs18
   apply wL
   refine mv s rfl rfl fun a s => ?_
   refine qq s rfl (yl_b (y_gtr s rfl rfl) hs18e) fun a s => ?_
   refine mv s rfl rfl fun a s => ?_
   refine gm s rfl rfl fun a s => ?_
   refine gy s rfl (y_lenSlice s rfl underlying29) fun a s => ?_
   refine gm s rfl rfl fun a s => ?_
   refine gy s rfl (y_gtr s rfl rfl) fun a s => ?_
   refine qq s rfl (y_pick_t s rfl rfl) fun a s => ?_
   apply wN
   exact ⟨(decide (most_ < (((r11).length : Nat) : Int))), hg, (s.sb rfl rfl rfl)⟩
  have hs18e := decide_eq_false hs18
  replace hg := br_f hg hs18
  apply wL
  refine mv s rfl rfl fun a s => ?_
  refine qq s rfl (yl_b (y_gtr s rfl rfl) hs18e) fun a s => ?_
  refine mv s rfl rfl fun a s => ?_
  refine gn s rfl fun a s => ?_
  refine gn s rfl fun a s => ?_
  refine gn s rfl fun a s => ?_
  refine gn s rfl fun a s => ?_
  refine qq s rfl (y_pick_f s rfl rfl) fun a s => ?_
  apply wN
  exact ⟨(false), hg, (s.sb rfl rfl rfl)⟩
 clear s a; rintro a w ⟨t_17, hg, s⟩
 subst hk16
 refine c_cond s rfl (fun hc19 => ?_) (fun hc19 => ?_)
 ·replace hg := br_t hg hc19
  apply wQ
  obtain ⟨hk20, hg⟩ := chk_some hg
  obtain ⟨hk21, hg⟩ := chk_some hg
  apply wL
  refine mv s rfl rfl fun a s => ?_
  refine mv s rfl rfl fun a s => ?_
  have hcap109 := (s.ft 107 rfl).cap
  refine qq s rfl (y_cutH (xs := r11) (sz := 1) (i := ((most_).toNat)) s rfl rfl underlying29 rfl (by omega) hk21 hcap109) fun a s => ?_
  replace s := s.add 109 (slF (Rep.list (Rep.num .i64)) (Au15a1) (((r11).take ((most_).toNat)).length) (cu15a1) ((r11).take ((most_).toNat))) (SlR.cutH (s.ft 107 rfl) ((most_).toNat) hk21)
  refine asg s rfl rfl fun a s => ?_
  refine asg s rfl rfl fun a s => ?_
  refine asg s rfl rfl fun a s => ?_
  apply wN
  apply wp_ret
  refine p_thenR ?_
  obtain rfl := Option.some.inj hg
  refine fin3 (fn := Tryz.f8) s rfl (r_tmp s rfl) (r_tmp s rfl) (r_tmp s rfl) ?_
  exact ⟨(Au15a1), (cu15a1), rfl, (s.out (k := 109) rfl)⟩
 replace hg := br_n hg hc19
 apply wp_skip
 apply pN
 apply wR
 refine mv s rfl rfl fun a s => ?_
 refine asg s rfl rfl fun a s => ?_
 refine asg s rfl rfl fun a s => ?_
 refine asg s rfl rfl fun a s => ?_
 apply wN
 apply wp_ret
 obtain rfl := Option.some.inj hg
 refine fin3 (fn := Tryz.f8) s rfl (r_tmp s rfl) (r_tmp s rfl) (r_tmp s rfl) ?_
 exact ⟨(Au15a1), (cu15a1), rfl, (s.out (k := 107) rfl)⟩
set_option maxHeartbeats 400000 in
theorem c_r42_First (n : Nat) (M : Bs) (w0 : World) (hM : ∀ b, M b → b < w0.heap.size) (m_ : MRS) (Ap03 : Option Addr) (cp03 : Nat) (Ap04 : Option Addr) (cp04 : Nat) (Ap05 : Option Addr) (cp05 : Nat) (hp03 : SlR Rep.str M w0 Ap03 (m_.Vars).length cp03 (m_.Vars)) (hp04 : SlR REP M w0 Ap04 (m_.Rels).length cp04 (m_.Rels)) (hp05 : SlR RQeq M w0 Ap05 (m_.Cons).length cp05 (m_.Cons)) (r : ((List Int) × Int)) (hg : r42_First n m_ = some r) :
    Calls Tryz.prog 11 [.agg #[.int .i64 (m_.Top), .int .i64 (m_.Index), .slice (Ap03) ((m_.Vars).length) (cp03), .slice (Ap04) ((m_.Rels).length) (cp04), .slice (Ap05) ((m_.Cons).length) (cp05)]].toArray w0 (Ret noB w0 fun v w => ∃ (Aa1 : Option Addr), ∃ (ca1 : Nat), v = .tuple #[.slice (Aa1) ((r.1).length) (ca1), .int .i64 (r.2)] ∧ (SlR (Rep.num .i64) M w Aa1 (r.1).length ca1 (r.1))) := by
 unfold r42_First at hg
 refine enter M noB func11 rfl rfl hM ?_
 intro a s
 replace s := s.es 101 hp03
 replace s := s.es 102 hp04
 replace s := s.es 103 hp05
 apply wR
 refine l_seq rfl (l_box (zs := [vI (m_.Top), vI (m_.Index), sl Ap03 (m_.Vars) cp03, sl Ap04 (m_.Rels) cp04, sl Ap05 (m_.Cons) cp05]) s 1000 rfl rfl rfl rfl fun b2 a w hb hK s => ?_)
 refine asg s rfl rfl fun a s => ?_
 refine asg s rfl rfl fun a s => ?_
 apply wN
 apply wQ
 obtain ⟨r3, hr3, hg⟩ := bind_some hg
 apply wL
 refine qq s rfl (y_loadAll (kk := 1000) s rfl rfl underlying26 rfl rfl) fun a s => ?_
 refine l_seq rfl (l_call (cap := []) s rfl func8 rfl (by kernel_rfl) rfl rfl (c_r42_All n _ _ s.lt m_ (Ap03) (cp03) (Ap04) (cp04) (Ap05) (cp05) (s.ft 101 rfl) (s.ft 102 rfl) (s.ft 103 rfl) 0 r3 hr3) fun v6 a w hK hp s => ?_)
 obtain ⟨Au7a1, cu7a1, rfl, hu7a1⟩ := hp
 replace s := s.ns 105 hu7a1
 refine mv s rfl rfl fun a s => ?_
 refine qq s rfl (y_extract s rfl rfl) fun a s => ?_
 refine qq s rfl (y_extract s rfl rfl) fun a s => ?_
 refine qq s rfl (y_extract s rfl rfl) fun a s => ?_
 refine asg s rfl rfl fun a s => ?_
 refine asg s rfl rfl fun a s => ?_
 refine asg s rfl rfl fun a s => ?_
 apply wN
 apply wQ
 apply wR
 refine mv s rfl rfl fun a s => ?_
 refine qq s rfl (y_neq s rfl rfl) fun a s => ?_
 apply wN
 refine c_dec s rfl (fun hc8 => ?_) (fun hc8 => ?_)
 ·replace hg := br_t hg hc8
  apply wR
  refine mv s rfl rfl fun a s => ?_
  refine asg s rfl rfl fun a s => ?_
  refine asg s rfl rfl fun a s => ?_
  apply wN
  apply wp_ret
  refine p_thenR ?_
  obtain rfl := Option.some.inj hg
  refine fin2 (fn := Tryz.f11) s rfl (r_tmp s rfl) (r_tmp s rfl) ?_
  exact ⟨(none), (0), rfl, (SlR.nil_ _ _ _)⟩
 replace hg := br_f hg hc8
 apply wp_skip
 apply pN
 apply wQ
 apply wR
 refine mv s rfl rfl fun a s => ?_
 refine qq s rfl (y_lenSlice s rfl underlying29) fun a s => ?_
 refine qq s rfl (y_eqlN (i := ((r3.1).length)) (j := 0) s rfl rfl) fun a s => ?_
 apply wN
 refine c_dec s rfl (fun hc9 => ?_) (fun hc9 => ?_)
 ·replace hg := br_t hg hc9
  apply wR
  refine asg s rfl rfl fun a s => ?_
  refine asg s rfl rfl fun a s => ?_
  apply wN
  apply wp_ret
  refine p_thenR ?_
  obtain rfl := Option.some.inj hg
  refine fin2 (fn := Tryz.f11) s rfl (r_tmp s rfl) (r_tmp s rfl) ?_
  exact ⟨(none), (0), rfl, (SlR.nil_ _ _ _)⟩
 replace hg := br_f hg hc9
 apply wp_skip
 apply pN
 apply wQ
 obtain ⟨x11, hx11, hg⟩ := bind_some hg
 apply wL
 refine mv s rfl rfl fun a s => ?_
 obtain ⟨p13, hep13, hpp13⟩ := SlR.elemX (s.ft 105 rfl) hx11
 refine qq s rfl (y_elem (sz := 1) (i := 0) s rfl rfl underlying29 rfl hep13 rfl (lt_of_get hx11)) fun a s => ?_
 obtain ⟨hlq14, hmq14, csq14, hdq14, hcq14⟩ := hpp13
 obtain ⟨Aq141, nnq14, cq141, rfl, hq141⟩ := hdq14
 obtain rfl := hq141.len
 replace s := s.ns 107 hq141
 refine qq s rfl (y_ldp1 s rfl hlq14 hmq14 (hcq14 0 _ rfl) underlying35 rfl) fun a s => ?_
 refine asg s rfl rfl fun a s => ?_
 refine asg s rfl rfl fun a s => ?_
 apply wN
 apply wp_ret
 obtain rfl := Option.some.inj hg
 refine fin2 (fn := Tryz.f11) s rfl (r_tmp s rfl) (r_tmp s rfl) ?_
 exact ⟨(Aq141), (cq141), rfl, (s.out (k := 107) rfl)⟩
set_option maxHeartbeats 400000 in
theorem c_r42_Count (n : Nat) (M : Bs) (w0 : World) (hM : ∀ b, M b → b < w0.heap.size) (m_ : MRS) (Ap03 : Option Addr) (cp03 : Nat) (Ap04 : Option Addr) (cp04 : Nat) (Ap05 : Option Addr) (cp05 : Nat) (hp03 : SlR Rep.str M w0 Ap03 (m_.Vars).length cp03 (m_.Vars)) (hp04 : SlR REP M w0 Ap04 (m_.Rels).length cp04 (m_.Rels)) (hp05 : SlR RQeq M w0 Ap05 (m_.Cons).length cp05 (m_.Cons)) (r : (Int × Int)) (hg : r42_Count n m_ = some r) :
    Calls Tryz.prog 13 [.agg #[.int .i64 (m_.Top), .int .i64 (m_.Index), .slice (Ap03) ((m_.Vars).length) (cp03), .slice (Ap04) ((m_.Rels).length) (cp04), .slice (Ap05) ((m_.Cons).length) (cp05)]].toArray w0 (Ret noB w0 fun v w => v = .tuple #[.int .i64 (r.1), .int .i64 (r.2)]) := by
 unfold r42_Count at hg
 refine enter M noB func13 rfl rfl hM ?_
 intro a s
 replace s := s.es 101 hp03
 replace s := s.es 102 hp04
 replace s := s.es 103 hp05
 apply wR
 refine l_seq rfl (l_box (zs := [vI (m_.Top), vI (m_.Index), sl Ap03 (m_.Vars) cp03, sl Ap04 (m_.Rels) cp04, sl Ap05 (m_.Cons) cp05]) s 1000 rfl rfl rfl rfl fun b2 a w hb hK s => ?_)
 refine asg s rfl rfl fun a s => ?_
 refine asg s rfl rfl fun a s => ?_
 apply wN
 apply wQ
 obtain ⟨r3, hr3, hg⟩ := bind_some hg
 apply wL
 refine qq s rfl (y_loadAll (kk := 1000) s rfl rfl underlying26 rfl rfl) fun a s => ?_
 refine l_seq rfl (l_call (cap := []) s rfl func8 rfl (by kernel_rfl) rfl rfl (c_r42_All n _ _ s.lt m_ (Ap03) (cp03) (Ap04) (cp04) (Ap05) (cp05) (s.ft 101 rfl) (s.ft 102 rfl) (s.ft 103 rfl) 0 r3 hr3) fun v6 a w hK hp s => ?_)
 obtain ⟨Au7a1, cu7a1, rfl, hu7a1⟩ := hp
 replace s := s.ns 105 hu7a1
 refine mv s rfl rfl fun a s => ?_
 refine qq s rfl (y_extract s rfl rfl) fun a s => ?_
 refine qq s rfl (y_extract s rfl rfl) fun a s => ?_
 refine qq s rfl (y_extract s rfl rfl) fun a s => ?_
 refine asg s rfl rfl fun a s => ?_
 refine asg s rfl rfl fun a s => ?_
 refine asg s rfl rfl fun a s => ?_
 apply wN
 apply wR
 refine mv s rfl rfl fun a s => ?_
 refine qq s rfl (y_lenSlice s rfl underlying29) fun a s => ?_
 refine mv s rfl rfl fun a s => ?_
 refine asg s rfl rfl fun a s => ?_
 refine asg s rfl rfl fun a s => ?_
 apply wN
 apply wp_ret
 obtain rfl := Option.some.inj hg
 refine fin2 (fn := Tryz.f13) s rfl (r_tmp s rfl) (r_tmp s rfl) ?_
 exact rfl
end Go.Proofs.YtdicfdfncbmmpaaGreat

