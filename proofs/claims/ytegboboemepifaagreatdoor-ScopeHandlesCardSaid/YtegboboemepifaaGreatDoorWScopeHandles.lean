/- Chapter 41: the walk of ScopeHandles -/
import Derived.Test.YtegboboemepifaaGreatDoorW5
namespace Go.Proofs.YtegboboemepifaaGreatDoor
open Go.Gl Go.RowKit Tryz
set_option linter.unusedVariables false
set_option linter.unusedSimpArgs false
set_option maxRecDepth 4000

set_option maxHeartbeats 400000 in
theorem c_law41_ScopeHandles (n : Nat) (M : Bs) (w0 : World) (hM : ∀ b, M b → b < w0.heap.size) (m_ : MRS) (Ap03 : Option Addr) (cp03 : Nat) (Ap04 : Option Addr) (cp04 : Nat) (Ap05 : Option Addr) (cp05 : Nat) (hp03 : SlR Rep.str M w0 Ap03 (m_.Vars).length cp03 (m_.Vars)) (hp04 : SlR REP M w0 Ap04 (m_.Rels).length cp04 (m_.Rels)) (hp05 : SlR RQeq M w0 Ap05 (m_.Cons).length cp05 (m_.Cons)) (hTab : (tabF Tryz.prog).p M w0) (r : Bool) (hg : law41_ScopeHandles n m_ = some r) :
    Calls Tryz.prog 3 [.agg #[.int .i64 (m_.Top), .int .i64 (m_.Index), .slice (Ap03) ((m_.Vars).length) (cp03), .slice (Ap04) ((m_.Rels).length) (cp04), .slice (Ap05) ((m_.Cons).length) (cp05)]].toArray w0 (Ret noB w0 fun v w => v = .bool (r)) := by
 unfold law41_ScopeHandles at hg
 refine enter M noB func3 rfl rfl hM ?_
 intro a s
 replace s := s.es 101 hp03
 replace s := s.es 102 hp04
 replace s := s.es 103 hp05
 replace s := s.add 7 (tabF Tryz.prog) (by exact Fact.change _ enterM hTab)
 apply wR
 refine l_seq rfl (l_box (zs := [vI (m_.Top), vI (m_.Index), sl Ap03 (m_.Vars) cp03, sl Ap04 (m_.Rels) cp04, sl Ap05 (m_.Cons) cp05]) s 1000 rfl rfl rfl rfl fun b2 a w hb hK s => ?_)
 refine asg s rfl rfl fun a s => ?_
 apply wN
 apply wQ
 apply wQ
 obtain ⟨r3, hr3, hg⟩ := bind_some hg
 apply wL
 refine qq s rfl (y_loadAll (kk := 1000) s rfl rfl underlying26 rfl rfl) fun a s => ?_
 refine l_seq rfl (l_call (cap := []) s rfl func9 rfl (by kernel_rfl) rfl rfl (c_law41_valid n _ _ s.lt m_ (Ap03) (cp03) (Ap04) (cp04) (Ap05) (cp05) (s.ft 101 rfl) (s.ft 102 rfl) (s.ft 103 rfl) r3 hr3) fun v6 a w hK hp s => ?_)
 obtain rfl := hp
 refine qq s rfl (y_not s rfl) fun a s => ?_
 apply wN
 refine c_cond s rfl (fun hc8 => ?_) (fun hc8 => ?_)
 ·replace hg := br_t hg hc8
  apply wQ
  obtain ⟨r9, hr9, hg⟩ := bind_some hg
  apply wL
  refine l_seq rfl (l_call (cap := []) s rfl func10 rfl (by kernel_rfl) rfl rfl (c_law41_exampleHolds n _ _ s.lt (s.ft 7 rfl) r9 hr9) fun v12 a w hK hp s => ?_)
  obtain rfl := hp
  refine asg s rfl rfl fun a s => ?_
  apply wN
  apply wp_ret
  refine p_thenR ?_
  obtain rfl := Option.some.inj hg
  refine fin1 (fn := Tryz.f3) s rfl (r_tmp s rfl) ?_
  exact rfl
 replace hg := br_n hg hc8
 apply wp_skip
 apply pN
 apply wQ
 obtain ⟨r14, hr14, hg⟩ := bind_some hg
 obtain ⟨r17, hr17, hg⟩ := bind_some hg
 obtain ⟨r20, hr20, hg⟩ := bind_some hg
 rcases Bool.eq_false_or_eq_true (r20) with hs23 | hs23
 ·replace hg := br_t hg hs23
  obtain ⟨r24, hr24, hg⟩ := bind_some hg
  obtain ⟨r27, hr27, hg⟩ := bind_some hg
  obtain ⟨r30, hr30, hg⟩ := bind_some hg
  rcases Bool.eq_false_or_eq_true (r30) with hs33 | hs33
  ·replace hg := br_t hg hs33
   obtain ⟨r34, hr34, hg⟩ := bind_some hg
   refine d_steps s [] rfl ?_; clear s; intro wr hZ s; have hR := s.wd; have hE := Ext.init hR 0
   refine n_q 0 1000 s hR rfl (by kernel_rfl) (by kernel_rfl) (by kernel_rfl) rfl rfl rfl (y_loadAll (kk := 1000) s rfl rfl underlying26 rfl rfl) fun a s => ?_
   refine n_q 2 1000 s hR rfl (by kernel_rfl) (by kernel_rfl) (by kernel_rfl) rfl rfl rfl (y_loadAll (kk := 1000) s rfl rfl underlying26 rfl rfl) fun a s => ?_
   refine n_1 1 s (by kernel_rfl) rfl rfl (l_call (cap := []) s rfl func12 rfl (by kernel_rfl) rfl rfl (c_scope_Holes n _ _ s.lt m_ (Ap03) (cp03) (Ap04) (cp04) (Ap05) (cp05) (s.ft 101 rfl) (s.ft 102 rfl) (s.ft 103 rfl) r14 hr14) fun v37 a w hK hp s => ?_)
   replace hE := hE.grow hK; replace hZ := Nat.le_trans hZ hK.size; refine ⟨fun g _ h => h.grow hK, ?_⟩; clear hK
   obtain ⟨Au38a1, cu38a1, rfl, hu38a1⟩ := hp
   replace s := s.ns 108 hu38a1
   refine n_1 3 s (by kernel_rfl) rfl rfl (l_call (cap := []) s rfl func13 rfl (by kernel_rfl) rfl rfl (c_r41_Holes n _ _ s.lt m_ (Ap03) (cp03) (Ap04) (cp04) (Ap05) (cp05) (s.ft 101 rfl) (s.ft 102 rfl) (s.ft 103 rfl) r17 hr17) fun v39 a w hK hp s => ?_)
   replace hE := hE.grow hK; replace hZ := Nat.le_trans hZ hK.size; refine ⟨fun g _ h => h.grow hK, ?_⟩; clear hK
   obtain ⟨Au40a1, cu40a1, rfl, hu40a1⟩ := hp
   replace s := s.ns 109 hu40a1
   refine n_1 4 s (by kernel_rfl) rfl rfl (l_call (cap := []) s rfl func11 rfl (by kernel_rfl) rfl rfl (c_r41_Same n _ _ s.lt r14 (Au38a1) (cu38a1) (s.ft 108 rfl) r17 (Au40a1) (cu40a1) (s.ft 109 rfl) r20 hr20) fun v41 a w hK hp s => ?_)
   replace hE := hE.grow hK; replace hZ := Nat.le_trans hZ hK.size; refine ⟨fun g _ h => h.grow hK, ?_⟩; clear hK
   obtain rfl := hp.trans (congrArg Value.bool hs23)
   refine n_1 5 s (by kernel_rfl) rfl rfl (l_quiet s rfl rfl (y_move s rfl) fun a s => ?_); refine ⟨fun g _ h => h, ?_⟩
   refine n_2 6 8 s (by kernel_rfl) rfl ⟨_, _, _, rfl, rfl, rfl, rfl⟩ rfl ⟨_, _, _, rfl, rfl, rfl, rfl⟩ ?_ ?_
   ·refine l_quiet s rfl rfl (y_loadAll (kk := 1000) s rfl rfl underlying26 rfl rfl) fun a s => ?_; refine ⟨fun g _ h => h, ?_⟩
    refine n_2 7 8 s (by kernel_rfl) rfl ⟨_, _, _, rfl, rfl, rfl, rfl⟩ rfl ⟨_, _, _, rfl, rfl, rfl, rfl⟩ ?_ ?_
    ·refine l_call (cap := []) s rfl func14 rfl (by kernel_rfl) rfl rfl (c_scope_Labels n _ _ s.lt m_ (Ap03) (cp03) (Ap04) (cp04) (Ap05) (cp05) (s.ft 101 rfl) (s.ft 102 rfl) (s.ft 103 rfl) r24 hr24) fun v43 a w hK hp s => ?_
     replace hE := hE.grow hK; replace hZ := Nat.le_trans hZ hK.size; refine ⟨fun g _ h => h.grow hK, ?_⟩; clear hK
     obtain ⟨Au44a1, cu44a1, rfl, hu44a1⟩ := hp
     replace s := s.ns 110 hu44a1
     refine n_1 8 s (by kernel_rfl) rfl ⟨_, _, _, rfl, rfl, rfl, rfl⟩ (l_quiet s rfl rfl (y_loadAll (kk := 1000) s rfl rfl underlying26 rfl rfl) fun a s => ?_); refine ⟨fun g _ h => h, ?_⟩
     refine n_1 9 s (by kernel_rfl) rfl ⟨_, _, _, rfl, rfl, rfl, rfl⟩ (l_call (cap := []) s rfl func15 rfl (by kernel_rfl) rfl rfl (c_r41_Labels n _ _ s.lt m_ (Ap03) (cp03) (Ap04) (cp04) (Ap05) (cp05) (s.ft 101 rfl) (s.ft 102 rfl) (s.ft 103 rfl) r27 hr27) fun v45 a w hK hp s => ?_)
     replace hE := hE.grow hK; replace hZ := Nat.le_trans hZ hK.size; refine ⟨fun g _ h => h.grow hK, ?_⟩; clear hK
     obtain ⟨Au46a1, cu46a1, rfl, hu46a1⟩ := hp
     replace s := s.ns 111 hu46a1
     refine n_1 10 s (by kernel_rfl) rfl ⟨_, _, _, rfl, rfl, rfl, rfl⟩ (l_call (cap := []) s rfl func11 rfl (by kernel_rfl) rfl rfl (c_r41_Same n _ _ s.lt r24 (Au44a1) (cu44a1) (s.ft 110 rfl) r27 (Au46a1) (cu46a1) (s.ft 111 rfl) r30 hr30) fun v47 a w hK hp s => ?_)
     replace hE := hE.grow hK; replace hZ := Nat.le_trans hZ hK.size; refine ⟨fun g _ h => h.grow hK, ?_⟩; clear hK
     obtain rfl := hp.trans (congrArg Value.bool hs33)
     refine n_1 11 s (by kernel_rfl) rfl rfl (l_quiet s rfl rfl (y_pick_t s rfl rfl) fun a s => ?_); refine ⟨fun g _ h => h, ?_⟩
     refine n_1 12 s (by kernel_rfl) rfl rfl (l_quiet s rfl rfl (y_move s rfl) fun a s => ?_); refine ⟨fun g _ h => h, ?_⟩
     refine n_1 13 s (by kernel_rfl) rfl ⟨_, _, _, rfl, rfl, rfl, rfl⟩ (l_call (cap := []) s rfl func10 rfl (by kernel_rfl) rfl rfl (c_law41_exampleHolds n _ _ s.lt (s.ft 7 rfl) r34 hr34) fun v49 a w hK hp s => ?_)
     replace hE := hE.grow hK; replace hZ := Nat.le_trans hZ hK.size; refine ⟨fun g _ h => h.grow hK, ?_⟩; clear hK
     obtain rfl := hp
     refine n_1 14 s (by kernel_rfl) rfl rfl (l_quiet s rfl rfl (y_pick_t s rfl rfl) fun a s => ?_); refine ⟨fun g _ h => h, ?_⟩
     refine n_1 15 s (by kernel_rfl) rfl rfl (l_quiet s rfl rfl (y_assign s rfl) fun a s => ?_); refine ⟨fun g _ h => h, ?_⟩
     refine n_end (by kernel_rfl) ?_; clear hR hZ hE
     apply pN
     apply wp_ret
     obtain rfl := Option.some.inj hg
     refine fin1 (fn := Tryz.f3) s rfl (r_tmp s rfl) ?_
     exact rfl
    ·refine l_quiet s rfl rfl (y_loadAll (kk := 1000) s rfl rfl underlying26 rfl rfl) fun a s => ?_; refine ⟨fun g _ h => h, ?_⟩
     refine n_1 7 s (by kernel_rfl) rfl ⟨_, _, _, rfl, rfl, rfl, rfl⟩ (l_call (cap := []) s rfl func14 rfl (by kernel_rfl) rfl rfl (c_scope_Labels n _ _ s.lt m_ (Ap03) (cp03) (Ap04) (cp04) (Ap05) (cp05) (s.ft 101 rfl) (s.ft 102 rfl) (s.ft 103 rfl) r24 hr24) fun v51 a w hK hp s => ?_)
     replace hE := hE.grow hK; replace hZ := Nat.le_trans hZ hK.size; refine ⟨fun g _ h => h.grow hK, ?_⟩; clear hK
     obtain ⟨Au52a1, cu52a1, rfl, hu52a1⟩ := hp
     replace s := s.ns 112 hu52a1
     refine n_1 9 s (by kernel_rfl) rfl ⟨_, _, _, rfl, rfl, rfl, rfl⟩ (l_call (cap := []) s rfl func15 rfl (by kernel_rfl) rfl rfl (c_r41_Labels n _ _ s.lt m_ (Ap03) (cp03) (Ap04) (cp04) (Ap05) (cp05) (s.ft 101 rfl) (s.ft 102 rfl) (s.ft 103 rfl) r27 hr27) fun v53 a w hK hp s => ?_)
     replace hE := hE.grow hK; replace hZ := Nat.le_trans hZ hK.size; refine ⟨fun g _ h => h.grow hK, ?_⟩; clear hK
     obtain ⟨Au54a1, cu54a1, rfl, hu54a1⟩ := hp
     replace s := s.ns 113 hu54a1
     refine n_1 10 s (by kernel_rfl) rfl ⟨_, _, _, rfl, rfl, rfl, rfl⟩ (l_call (cap := []) s rfl func11 rfl (by kernel_rfl) rfl rfl (c_r41_Same n _ _ s.lt r24 (Au52a1) (cu52a1) (s.ft 112 rfl) r27 (Au54a1) (cu54a1) (s.ft 113 rfl) r30 hr30) fun v55 a w hK hp s => ?_)
     replace hE := hE.grow hK; replace hZ := Nat.le_trans hZ hK.size; refine ⟨fun g _ h => h.grow hK, ?_⟩; clear hK
     obtain rfl := hp.trans (congrArg Value.bool hs33)
     refine n_1 11 s (by kernel_rfl) rfl rfl (l_quiet s rfl rfl (y_pick_t s rfl rfl) fun a s => ?_); refine ⟨fun g _ h => h, ?_⟩
     refine n_1 12 s (by kernel_rfl) rfl rfl (l_quiet s rfl rfl (y_move s rfl) fun a s => ?_); refine ⟨fun g _ h => h, ?_⟩
     refine n_1 13 s (by kernel_rfl) rfl ⟨_, _, _, rfl, rfl, rfl, rfl⟩ (l_call (cap := []) s rfl func10 rfl (by kernel_rfl) rfl rfl (c_law41_exampleHolds n _ _ s.lt (s.ft 7 rfl) r34 hr34) fun v57 a w hK hp s => ?_)
     replace hE := hE.grow hK; replace hZ := Nat.le_trans hZ hK.size; refine ⟨fun g _ h => h.grow hK, ?_⟩; clear hK
     obtain rfl := hp
     refine n_1 14 s (by kernel_rfl) rfl rfl (l_quiet s rfl rfl (y_pick_t s rfl rfl) fun a s => ?_); refine ⟨fun g _ h => h, ?_⟩
     refine n_1 15 s (by kernel_rfl) rfl rfl (l_quiet s rfl rfl (y_assign s rfl) fun a s => ?_); refine ⟨fun g _ h => h, ?_⟩
     refine n_end (by kernel_rfl) ?_; clear hR hZ hE
     apply pN
     apply wp_ret
     obtain rfl := Option.some.inj hg
     refine fin1 (fn := Tryz.f3) s rfl (r_tmp s rfl) ?_
     exact rfl
   ·refine l_quiet s rfl rfl (y_loadAll (kk := 1000) s rfl rfl underlying26 rfl rfl) fun a s => ?_; refine ⟨fun g _ h => h, ?_⟩
    refine n_1 6 s (by kernel_rfl) rfl ⟨_, _, _, rfl, rfl, rfl, rfl⟩ (l_quiet s rfl rfl (y_loadAll (kk := 1000) s rfl rfl underlying26 rfl rfl) fun a s => ?_); refine ⟨fun g _ h => h, ?_⟩
    refine n_1 7 s (by kernel_rfl) rfl ⟨_, _, _, rfl, rfl, rfl, rfl⟩ (l_call (cap := []) s rfl func14 rfl (by kernel_rfl) rfl rfl (c_scope_Labels n _ _ s.lt m_ (Ap03) (cp03) (Ap04) (cp04) (Ap05) (cp05) (s.ft 101 rfl) (s.ft 102 rfl) (s.ft 103 rfl) r24 hr24) fun v59 a w hK hp s => ?_)
    replace hE := hE.grow hK; replace hZ := Nat.le_trans hZ hK.size; refine ⟨fun g _ h => h.grow hK, ?_⟩; clear hK
    obtain ⟨Au60a1, cu60a1, rfl, hu60a1⟩ := hp
    replace s := s.ns 114 hu60a1
    refine n_1 9 s (by kernel_rfl) rfl ⟨_, _, _, rfl, rfl, rfl, rfl⟩ (l_call (cap := []) s rfl func15 rfl (by kernel_rfl) rfl rfl (c_r41_Labels n _ _ s.lt m_ (Ap03) (cp03) (Ap04) (cp04) (Ap05) (cp05) (s.ft 101 rfl) (s.ft 102 rfl) (s.ft 103 rfl) r27 hr27) fun v61 a w hK hp s => ?_)
    replace hE := hE.grow hK; replace hZ := Nat.le_trans hZ hK.size; refine ⟨fun g _ h => h.grow hK, ?_⟩; clear hK
    obtain ⟨Au62a1, cu62a1, rfl, hu62a1⟩ := hp
    replace s := s.ns 115 hu62a1
    refine n_1 10 s (by kernel_rfl) rfl ⟨_, _, _, rfl, rfl, rfl, rfl⟩ (l_call (cap := []) s rfl func11 rfl (by kernel_rfl) rfl rfl (c_r41_Same n _ _ s.lt r24 (Au60a1) (cu60a1) (s.ft 114 rfl) r27 (Au62a1) (cu62a1) (s.ft 115 rfl) r30 hr30) fun v63 a w hK hp s => ?_)
    replace hE := hE.grow hK; replace hZ := Nat.le_trans hZ hK.size; refine ⟨fun g _ h => h.grow hK, ?_⟩; clear hK
    obtain rfl := hp.trans (congrArg Value.bool hs33)
    refine n_1 11 s (by kernel_rfl) rfl rfl (l_quiet s rfl rfl (y_pick_t s rfl rfl) fun a s => ?_); refine ⟨fun g _ h => h, ?_⟩
    refine n_1 12 s (by kernel_rfl) rfl rfl (l_quiet s rfl rfl (y_move s rfl) fun a s => ?_); refine ⟨fun g _ h => h, ?_⟩
    refine n_1 13 s (by kernel_rfl) rfl ⟨_, _, _, rfl, rfl, rfl, rfl⟩ (l_call (cap := []) s rfl func10 rfl (by kernel_rfl) rfl rfl (c_law41_exampleHolds n _ _ s.lt (s.ft 7 rfl) r34 hr34) fun v65 a w hK hp s => ?_)
    replace hE := hE.grow hK; replace hZ := Nat.le_trans hZ hK.size; refine ⟨fun g _ h => h.grow hK, ?_⟩; clear hK
    obtain rfl := hp
    refine n_1 14 s (by kernel_rfl) rfl rfl (l_quiet s rfl rfl (y_pick_t s rfl rfl) fun a s => ?_); refine ⟨fun g _ h => h, ?_⟩
    refine n_1 15 s (by kernel_rfl) rfl rfl (l_quiet s rfl rfl (y_assign s rfl) fun a s => ?_); refine ⟨fun g _ h => h, ?_⟩
    refine n_end (by kernel_rfl) ?_; clear hR hZ hE
    apply pN
    apply wp_ret
    obtain rfl := Option.some.inj hg
    refine fin1 (fn := Tryz.f3) s rfl (r_tmp s rfl) ?_
    exact rfl
  replace hg := br_n hg hs33
  refine d_steps s [] rfl ?_; clear s; intro wr hZ s; have hR := s.wd; have hE := Ext.init hR 0
  refine n_q 0 1000 s hR rfl (by kernel_rfl) (by kernel_rfl) (by kernel_rfl) rfl rfl rfl (y_loadAll (kk := 1000) s rfl rfl underlying26 rfl rfl) fun a s => ?_
  refine n_q 2 1000 s hR rfl (by kernel_rfl) (by kernel_rfl) (by kernel_rfl) rfl rfl rfl (y_loadAll (kk := 1000) s rfl rfl underlying26 rfl rfl) fun a s => ?_
  refine n_1 1 s (by kernel_rfl) rfl rfl (l_call (cap := []) s rfl func12 rfl (by kernel_rfl) rfl rfl (c_scope_Holes n _ _ s.lt m_ (Ap03) (cp03) (Ap04) (cp04) (Ap05) (cp05) (s.ft 101 rfl) (s.ft 102 rfl) (s.ft 103 rfl) r14 hr14) fun v67 a w hK hp s => ?_)
  replace hE := hE.grow hK; replace hZ := Nat.le_trans hZ hK.size; refine ⟨fun g _ h => h.grow hK, ?_⟩; clear hK
  obtain ⟨Au68a1, cu68a1, rfl, hu68a1⟩ := hp
  replace s := s.ns 116 hu68a1
  refine n_1 3 s (by kernel_rfl) rfl rfl (l_call (cap := []) s rfl func13 rfl (by kernel_rfl) rfl rfl (c_r41_Holes n _ _ s.lt m_ (Ap03) (cp03) (Ap04) (cp04) (Ap05) (cp05) (s.ft 101 rfl) (s.ft 102 rfl) (s.ft 103 rfl) r17 hr17) fun v69 a w hK hp s => ?_)
  replace hE := hE.grow hK; replace hZ := Nat.le_trans hZ hK.size; refine ⟨fun g _ h => h.grow hK, ?_⟩; clear hK
  obtain ⟨Au70a1, cu70a1, rfl, hu70a1⟩ := hp
  replace s := s.ns 117 hu70a1
  refine n_1 4 s (by kernel_rfl) rfl rfl (l_call (cap := []) s rfl func11 rfl (by kernel_rfl) rfl rfl (c_r41_Same n _ _ s.lt r14 (Au68a1) (cu68a1) (s.ft 116 rfl) r17 (Au70a1) (cu70a1) (s.ft 117 rfl) r20 hr20) fun v71 a w hK hp s => ?_)
  replace hE := hE.grow hK; replace hZ := Nat.le_trans hZ hK.size; refine ⟨fun g _ h => h.grow hK, ?_⟩; clear hK
  obtain rfl := hp.trans (congrArg Value.bool hs23)
  refine n_1 5 s (by kernel_rfl) rfl rfl (l_quiet s rfl rfl (y_move s rfl) fun a s => ?_); refine ⟨fun g _ h => h, ?_⟩
  refine n_2 6 8 s (by kernel_rfl) rfl ⟨_, _, _, rfl, rfl, rfl, rfl⟩ rfl ⟨_, _, _, rfl, rfl, rfl, rfl⟩ ?_ ?_
  ·refine l_quiet s rfl rfl (y_loadAll (kk := 1000) s rfl rfl underlying26 rfl rfl) fun a s => ?_; refine ⟨fun g _ h => h, ?_⟩
   refine n_2 7 8 s (by kernel_rfl) rfl ⟨_, _, _, rfl, rfl, rfl, rfl⟩ rfl ⟨_, _, _, rfl, rfl, rfl, rfl⟩ ?_ ?_
   ·refine l_call (cap := []) s rfl func14 rfl (by kernel_rfl) rfl rfl (c_scope_Labels n _ _ s.lt m_ (Ap03) (cp03) (Ap04) (cp04) (Ap05) (cp05) (s.ft 101 rfl) (s.ft 102 rfl) (s.ft 103 rfl) r24 hr24) fun v73 a w hK hp s => ?_
    replace hE := hE.grow hK; replace hZ := Nat.le_trans hZ hK.size; refine ⟨fun g _ h => h.grow hK, ?_⟩; clear hK
    obtain ⟨Au74a1, cu74a1, rfl, hu74a1⟩ := hp
    replace s := s.ns 118 hu74a1
    refine n_1 8 s (by kernel_rfl) rfl ⟨_, _, _, rfl, rfl, rfl, rfl⟩ (l_quiet s rfl rfl (y_loadAll (kk := 1000) s rfl rfl underlying26 rfl rfl) fun a s => ?_); refine ⟨fun g _ h => h, ?_⟩
    refine n_1 9 s (by kernel_rfl) rfl ⟨_, _, _, rfl, rfl, rfl, rfl⟩ (l_call (cap := []) s rfl func15 rfl (by kernel_rfl) rfl rfl (c_r41_Labels n _ _ s.lt m_ (Ap03) (cp03) (Ap04) (cp04) (Ap05) (cp05) (s.ft 101 rfl) (s.ft 102 rfl) (s.ft 103 rfl) r27 hr27) fun v75 a w hK hp s => ?_)
    replace hE := hE.grow hK; replace hZ := Nat.le_trans hZ hK.size; refine ⟨fun g _ h => h.grow hK, ?_⟩; clear hK
    obtain ⟨Au76a1, cu76a1, rfl, hu76a1⟩ := hp
    replace s := s.ns 119 hu76a1
    refine n_1 10 s (by kernel_rfl) rfl ⟨_, _, _, rfl, rfl, rfl, rfl⟩ (l_call (cap := []) s rfl func11 rfl (by kernel_rfl) rfl rfl (c_r41_Same n _ _ s.lt r24 (Au74a1) (cu74a1) (s.ft 118 rfl) r27 (Au76a1) (cu76a1) (s.ft 119 rfl) r30 hr30) fun v77 a w hK hp s => ?_)
    replace hE := hE.grow hK; replace hZ := Nat.le_trans hZ hK.size; refine ⟨fun g _ h => h.grow hK, ?_⟩; clear hK
    obtain rfl := hp.trans (congrArg Value.bool hs33)
    refine n_1 11 s (by kernel_rfl) rfl rfl (l_quiet s rfl rfl (y_pick_t s rfl rfl) fun a s => ?_); refine ⟨fun g _ h => h, ?_⟩
    refine n_1 12 s (by kernel_rfl) rfl rfl (l_quiet s rfl rfl (y_move s rfl) fun a s => ?_); refine ⟨fun g _ h => h, ?_⟩
    refine n_pass 13 s (by kernel_rfl) rfl ⟨_, _, _, rfl, rfl, rfl, rfl⟩ rfl rfl fun a s => ?_
    refine n_1 14 s (by kernel_rfl) rfl rfl (l_quiet s rfl rfl (y_pick_f s rfl rfl) fun a s => ?_); refine ⟨fun g _ h => h, ?_⟩
    refine n_1 15 s (by kernel_rfl) rfl rfl (l_quiet s rfl rfl (y_assign s rfl) fun a s => ?_); refine ⟨fun g _ h => h, ?_⟩
    refine n_end (by kernel_rfl) ?_; clear hR hZ hE
    apply pN
    apply wp_ret
    obtain rfl := Option.some.inj hg
    refine fin1 (fn := Tryz.f3) s rfl (r_tmp s rfl) ?_
    exact rfl
   ·refine l_quiet s rfl rfl (y_loadAll (kk := 1000) s rfl rfl underlying26 rfl rfl) fun a s => ?_; refine ⟨fun g _ h => h, ?_⟩
    refine n_1 7 s (by kernel_rfl) rfl ⟨_, _, _, rfl, rfl, rfl, rfl⟩ (l_call (cap := []) s rfl func14 rfl (by kernel_rfl) rfl rfl (c_scope_Labels n _ _ s.lt m_ (Ap03) (cp03) (Ap04) (cp04) (Ap05) (cp05) (s.ft 101 rfl) (s.ft 102 rfl) (s.ft 103 rfl) r24 hr24) fun v79 a w hK hp s => ?_)
    replace hE := hE.grow hK; replace hZ := Nat.le_trans hZ hK.size; refine ⟨fun g _ h => h.grow hK, ?_⟩; clear hK
    obtain ⟨Au80a1, cu80a1, rfl, hu80a1⟩ := hp
    replace s := s.ns 120 hu80a1
    refine n_1 9 s (by kernel_rfl) rfl ⟨_, _, _, rfl, rfl, rfl, rfl⟩ (l_call (cap := []) s rfl func15 rfl (by kernel_rfl) rfl rfl (c_r41_Labels n _ _ s.lt m_ (Ap03) (cp03) (Ap04) (cp04) (Ap05) (cp05) (s.ft 101 rfl) (s.ft 102 rfl) (s.ft 103 rfl) r27 hr27) fun v81 a w hK hp s => ?_)
    replace hE := hE.grow hK; replace hZ := Nat.le_trans hZ hK.size; refine ⟨fun g _ h => h.grow hK, ?_⟩; clear hK
    obtain ⟨Au82a1, cu82a1, rfl, hu82a1⟩ := hp
    replace s := s.ns 121 hu82a1
    refine n_1 10 s (by kernel_rfl) rfl ⟨_, _, _, rfl, rfl, rfl, rfl⟩ (l_call (cap := []) s rfl func11 rfl (by kernel_rfl) rfl rfl (c_r41_Same n _ _ s.lt r24 (Au80a1) (cu80a1) (s.ft 120 rfl) r27 (Au82a1) (cu82a1) (s.ft 121 rfl) r30 hr30) fun v83 a w hK hp s => ?_)
    replace hE := hE.grow hK; replace hZ := Nat.le_trans hZ hK.size; refine ⟨fun g _ h => h.grow hK, ?_⟩; clear hK
    obtain rfl := hp.trans (congrArg Value.bool hs33)
    refine n_1 11 s (by kernel_rfl) rfl rfl (l_quiet s rfl rfl (y_pick_t s rfl rfl) fun a s => ?_); refine ⟨fun g _ h => h, ?_⟩
    refine n_1 12 s (by kernel_rfl) rfl rfl (l_quiet s rfl rfl (y_move s rfl) fun a s => ?_); refine ⟨fun g _ h => h, ?_⟩
    refine n_pass 13 s (by kernel_rfl) rfl ⟨_, _, _, rfl, rfl, rfl, rfl⟩ rfl rfl fun a s => ?_
    refine n_1 14 s (by kernel_rfl) rfl rfl (l_quiet s rfl rfl (y_pick_f s rfl rfl) fun a s => ?_); refine ⟨fun g _ h => h, ?_⟩
    refine n_1 15 s (by kernel_rfl) rfl rfl (l_quiet s rfl rfl (y_assign s rfl) fun a s => ?_); refine ⟨fun g _ h => h, ?_⟩
    refine n_end (by kernel_rfl) ?_; clear hR hZ hE
    apply pN
    apply wp_ret
    obtain rfl := Option.some.inj hg
    refine fin1 (fn := Tryz.f3) s rfl (r_tmp s rfl) ?_
    exact rfl
  ·refine l_quiet s rfl rfl (y_loadAll (kk := 1000) s rfl rfl underlying26 rfl rfl) fun a s => ?_; refine ⟨fun g _ h => h, ?_⟩
   refine n_1 6 s (by kernel_rfl) rfl ⟨_, _, _, rfl, rfl, rfl, rfl⟩ (l_quiet s rfl rfl (y_loadAll (kk := 1000) s rfl rfl underlying26 rfl rfl) fun a s => ?_); refine ⟨fun g _ h => h, ?_⟩
   refine n_1 7 s (by kernel_rfl) rfl ⟨_, _, _, rfl, rfl, rfl, rfl⟩ (l_call (cap := []) s rfl func14 rfl (by kernel_rfl) rfl rfl (c_scope_Labels n _ _ s.lt m_ (Ap03) (cp03) (Ap04) (cp04) (Ap05) (cp05) (s.ft 101 rfl) (s.ft 102 rfl) (s.ft 103 rfl) r24 hr24) fun v85 a w hK hp s => ?_)
   replace hE := hE.grow hK; replace hZ := Nat.le_trans hZ hK.size; refine ⟨fun g _ h => h.grow hK, ?_⟩; clear hK
   obtain ⟨Au86a1, cu86a1, rfl, hu86a1⟩ := hp
   replace s := s.ns 122 hu86a1
   refine n_1 9 s (by kernel_rfl) rfl ⟨_, _, _, rfl, rfl, rfl, rfl⟩ (l_call (cap := []) s rfl func15 rfl (by kernel_rfl) rfl rfl (c_r41_Labels n _ _ s.lt m_ (Ap03) (cp03) (Ap04) (cp04) (Ap05) (cp05) (s.ft 101 rfl) (s.ft 102 rfl) (s.ft 103 rfl) r27 hr27) fun v87 a w hK hp s => ?_)
   replace hE := hE.grow hK; replace hZ := Nat.le_trans hZ hK.size; refine ⟨fun g _ h => h.grow hK, ?_⟩; clear hK
   obtain ⟨Au88a1, cu88a1, rfl, hu88a1⟩ := hp
   replace s := s.ns 123 hu88a1
   refine n_1 10 s (by kernel_rfl) rfl ⟨_, _, _, rfl, rfl, rfl, rfl⟩ (l_call (cap := []) s rfl func11 rfl (by kernel_rfl) rfl rfl (c_r41_Same n _ _ s.lt r24 (Au86a1) (cu86a1) (s.ft 122 rfl) r27 (Au88a1) (cu88a1) (s.ft 123 rfl) r30 hr30) fun v89 a w hK hp s => ?_)
   replace hE := hE.grow hK; replace hZ := Nat.le_trans hZ hK.size; refine ⟨fun g _ h => h.grow hK, ?_⟩; clear hK
   obtain rfl := hp.trans (congrArg Value.bool hs33)
   refine n_1 11 s (by kernel_rfl) rfl rfl (l_quiet s rfl rfl (y_pick_t s rfl rfl) fun a s => ?_); refine ⟨fun g _ h => h, ?_⟩
   refine n_1 12 s (by kernel_rfl) rfl rfl (l_quiet s rfl rfl (y_move s rfl) fun a s => ?_); refine ⟨fun g _ h => h, ?_⟩
   refine n_pass 13 s (by kernel_rfl) rfl ⟨_, _, _, rfl, rfl, rfl, rfl⟩ rfl rfl fun a s => ?_
   refine n_1 14 s (by kernel_rfl) rfl rfl (l_quiet s rfl rfl (y_pick_f s rfl rfl) fun a s => ?_); refine ⟨fun g _ h => h, ?_⟩
   refine n_1 15 s (by kernel_rfl) rfl rfl (l_quiet s rfl rfl (y_assign s rfl) fun a s => ?_); refine ⟨fun g _ h => h, ?_⟩
   refine n_end (by kernel_rfl) ?_; clear hR hZ hE
   apply pN
   apply wp_ret
   obtain rfl := Option.some.inj hg
   refine fin1 (fn := Tryz.f3) s rfl (r_tmp s rfl) ?_
   exact rfl
 replace hg := br_n hg hs23
 refine d_steps s [] rfl ?_; clear s; intro wr hZ s; have hR := s.wd; have hE := Ext.init hR 0
 refine n_q 0 1000 s hR rfl (by kernel_rfl) (by kernel_rfl) (by kernel_rfl) rfl rfl rfl (y_loadAll (kk := 1000) s rfl rfl underlying26 rfl rfl) fun a s => ?_
 refine n_q 2 1000 s hR rfl (by kernel_rfl) (by kernel_rfl) (by kernel_rfl) rfl rfl rfl (y_loadAll (kk := 1000) s rfl rfl underlying26 rfl rfl) fun a s => ?_
 refine n_1 1 s (by kernel_rfl) rfl rfl (l_call (cap := []) s rfl func12 rfl (by kernel_rfl) rfl rfl (c_scope_Holes n _ _ s.lt m_ (Ap03) (cp03) (Ap04) (cp04) (Ap05) (cp05) (s.ft 101 rfl) (s.ft 102 rfl) (s.ft 103 rfl) r14 hr14) fun v91 a w hK hp s => ?_)
 replace hE := hE.grow hK; replace hZ := Nat.le_trans hZ hK.size; refine ⟨fun g _ h => h.grow hK, ?_⟩; clear hK
 obtain ⟨Au92a1, cu92a1, rfl, hu92a1⟩ := hp
 replace s := s.ns 124 hu92a1
 refine n_1 3 s (by kernel_rfl) rfl rfl (l_call (cap := []) s rfl func13 rfl (by kernel_rfl) rfl rfl (c_r41_Holes n _ _ s.lt m_ (Ap03) (cp03) (Ap04) (cp04) (Ap05) (cp05) (s.ft 101 rfl) (s.ft 102 rfl) (s.ft 103 rfl) r17 hr17) fun v93 a w hK hp s => ?_)
 replace hE := hE.grow hK; replace hZ := Nat.le_trans hZ hK.size; refine ⟨fun g _ h => h.grow hK, ?_⟩; clear hK
 obtain ⟨Au94a1, cu94a1, rfl, hu94a1⟩ := hp
 replace s := s.ns 125 hu94a1
 refine n_1 4 s (by kernel_rfl) rfl rfl (l_call (cap := []) s rfl func11 rfl (by kernel_rfl) rfl rfl (c_r41_Same n _ _ s.lt r14 (Au92a1) (cu92a1) (s.ft 124 rfl) r17 (Au94a1) (cu94a1) (s.ft 125 rfl) r20 hr20) fun v95 a w hK hp s => ?_)
 replace hE := hE.grow hK; replace hZ := Nat.le_trans hZ hK.size; refine ⟨fun g _ h => h.grow hK, ?_⟩; clear hK
 obtain rfl := hp.trans (congrArg Value.bool hs23)
 refine n_1 5 s (by kernel_rfl) rfl rfl (l_quiet s rfl rfl (y_move s rfl) fun a s => ?_); refine ⟨fun g _ h => h, ?_⟩
 refine n_qlpass 6 s hE rfl (by kernel_rfl) (by kernel_rfl) (by kernel_rfl) rfl ⟨_, _, _, rfl, rfl, rfl, rfl⟩ rfl fun a s => ?_
 refine n_qlpass 7 s hE rfl (by kernel_rfl) (by kernel_rfl) (by kernel_rfl) rfl ⟨_, _, _, rfl, rfl, rfl, rfl⟩ rfl fun a s => ?_
 refine n_pass 8 s (by kernel_rfl) rfl ⟨_, _, _, rfl, rfl, rfl, rfl⟩ rfl rfl fun a s => ?_
 refine n_pass 9 s (by kernel_rfl) rfl ⟨_, _, _, rfl, rfl, rfl, rfl⟩ rfl rfl fun a s => ?_
 refine n_pass 10 s (by kernel_rfl) rfl ⟨_, _, _, rfl, rfl, rfl, rfl⟩ rfl rfl fun a s => ?_
 refine n_1 11 s (by kernel_rfl) rfl rfl (l_quiet s rfl rfl (y_pick_f s rfl rfl) fun a s => ?_); refine ⟨fun g _ h => h, ?_⟩
 refine n_1 12 s (by kernel_rfl) rfl rfl (l_quiet s rfl rfl (y_move s rfl) fun a s => ?_); refine ⟨fun g _ h => h, ?_⟩
 refine n_pass 13 s (by kernel_rfl) rfl ⟨_, _, _, rfl, rfl, rfl, rfl⟩ rfl rfl fun a s => ?_
 refine n_1 14 s (by kernel_rfl) rfl rfl (l_quiet s rfl rfl (y_pick_f s rfl rfl) fun a s => ?_); refine ⟨fun g _ h => h, ?_⟩
 refine n_1 15 s (by kernel_rfl) rfl rfl (l_quiet s rfl rfl (y_assign s rfl) fun a s => ?_); refine ⟨fun g _ h => h, ?_⟩
 refine n_end (by kernel_rfl) ?_; clear hR hZ hE
 apply pN
 apply wp_ret
 obtain rfl := Option.some.inj hg
 refine fin1 (fn := Tryz.f3) s rfl (r_tmp s rfl) ?_
 exact rfl
end Go.Proofs.YtegboboemepifaaGreatDoor

