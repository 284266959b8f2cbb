/- Chapter 41: the walk of ScopeBelow -/
import Derived.Test.YtegboboemepifaaGreatDoorW5
namespace Go.Proofs.YtegboboemepifaaGreatDoor
open Go.Gl Go.RowKit Tryz
set_option linter.unusedVariables false
set_option linter.unusedSimpArgs false
set_option maxRecDepth 4000

set_option maxHeartbeats 400000 in
theorem c_law41_ScopeBelow (n : Nat) (M : Bs) (w0 : World) (hM : ∀ b, M b → b < w0.heap.size) (m_ : MRS) (Ap03 : Option Addr) (cp03 : Nat) (Ap04 : Option Addr) (cp04 : Nat) (Ap05 : Option Addr) (cp05 : Nat) (hp03 : SlR Rep.str M w0 Ap03 (m_.Vars).length cp03 (m_.Vars)) (hp04 : SlR REP M w0 Ap04 (m_.Rels).length cp04 (m_.Rels)) (hp05 : SlR RQeq M w0 Ap05 (m_.Cons).length cp05 (m_.Cons)) (choose_ : (List UInt8)) (Ap11 : Option Addr) (cp11 : Nat) (hp11 : SlR Rep.u8 M w0 Ap11 (choose_).length cp11 (choose_)) (label_ : Int) (hTab : (tabF Tryz.prog).p M w0) (r : Bool) (hg : law41_ScopeBelow n m_ choose_ label_ = some r) :
    Calls Tryz.prog 4 [.agg #[.int .i64 (m_.Top), .int .i64 (m_.Index), .slice (Ap03) ((m_.Vars).length) (cp03), .slice (Ap04) ((m_.Rels).length) (cp04), .slice (Ap05) ((m_.Cons).length) (cp05)], .slice (Ap11) ((choose_).length) (cp11), .int .i64 (label_)].toArray w0 (Ret noB w0 fun v w => v = .bool (r)) := by
 unfold law41_ScopeBelow at hg
 refine enter M noB func4 rfl rfl hM ?_
 intro a s
 replace s := s.es 101 hp03
 replace s := s.es 102 hp04
 replace s := s.es 103 hp05
 replace s := s.es 104 hp11
 replace s := s.add 7 (tabF Tryz.prog) (by exact Fact.change _ enterM hTab)
 apply wR
 refine l_seq rfl (l_box (zs := [vI (m_.Top), vI (m_.Index), sl Ap03 (m_.Vars) cp03, sl Ap04 (m_.Rels) cp04, sl Ap05 (m_.Cons) cp05]) s 1000 rfl rfl rfl rfl fun b2 a w hb hK s => ?_)
 refine asg s rfl rfl fun a s => ?_
 apply wN
 apply wQ
 apply wQ
 obtain ⟨r3, hr3, hg⟩ := bind_some hg
 apply wL
 refine qq s rfl (y_loadAll (kk := 1000) s rfl rfl underlying26 rfl rfl) fun a s => ?_
 refine l_seq rfl (l_call (cap := []) s rfl func9 rfl (by kernel_rfl) rfl rfl (c_law41_valid n _ _ s.lt m_ (Ap03) (cp03) (Ap04) (cp04) (Ap05) (cp05) (s.ft 101 rfl) (s.ft 102 rfl) (s.ft 103 rfl) r3 hr3) fun v6 a w hK hp s => ?_)
 obtain rfl := hp
 refine qq s rfl (y_not s rfl) fun a s => ?_
 apply wN
 refine c_cond s rfl (fun hc8 => ?_) (fun hc8 => ?_)
 ·replace hg := br_t hg hc8
  apply wQ
  obtain ⟨r9, hr9, hg⟩ := bind_some hg
  apply wL
  refine l_seq rfl (l_call (cap := []) s rfl func10 rfl (by kernel_rfl) rfl rfl (c_law41_exampleHolds n _ _ s.lt (s.ft 7 rfl) r9 hr9) fun v12 a w hK hp s => ?_)
  obtain rfl := hp
  refine asg s rfl rfl fun a s => ?_
  apply wN
  apply wp_ret
  refine p_thenR ?_
  obtain rfl := Option.some.inj hg
  refine fin1 (fn := Tryz.f4) s rfl (r_tmp s rfl) ?_
  exact rfl
 replace hg := br_n hg hc8
 apply wp_skip
 apply pN
 apply wQ
 obtain ⟨r14, hr14, hg⟩ := bind_some hg
 apply wL
 refine qq s rfl (y_loadAll (kk := 1000) s rfl rfl underlying26 rfl rfl) fun a s => ?_
 refine mv s rfl rfl fun a s => ?_
 refine l_seq rfl (l_call (cap := []) s rfl func16 rfl (by kernel_rfl) rfl rfl (c_law41_labelled n _ _ s.lt m_ (Ap03) (cp03) (Ap04) (cp04) (Ap05) (cp05) (s.ft 101 rfl) (s.ft 102 rfl) (s.ft 103 rfl) choose_ (Ap11) (cp11) (s.ft 104 rfl) r14 hr14) fun v17 a w hK hp s => ?_)
 obtain ⟨Au18a1, cu18a1, rfl, hu18a1⟩ := hp
 replace s := s.ns 106 hu18a1
 refine asg s rfl rfl fun a s => ?_
 apply wN
 apply wQ
 apply wQ
 obtain ⟨r19, hr19, hg⟩ := bind_some hg
 apply wL
 refine mv s rfl rfl fun a s => ?_
 refine qq s rfl (y_lenSlice s rfl underlying30) fun a s => ?_
 refine qq s rfl (y_loadAll (kk := 1000) s rfl rfl underlying26 rfl rfl) fun a s => ?_
 refine l_seq rfl (l_call (cap := []) s rfl func13 rfl (by kernel_rfl) rfl rfl (c_r41_Holes n _ _ s.lt m_ (Ap03) (cp03) (Ap04) (cp04) (Ap05) (cp05) (s.ft 101 rfl) (s.ft 102 rfl) (s.ft 103 rfl) r19 hr19) fun v22 a w hK hp s => ?_)
 obtain ⟨Au23a1, cu23a1, rfl, hu23a1⟩ := hp
 replace s := s.ns 108 hu23a1
 refine qq s rfl (y_lenSlice s rfl underlying30) fun a s => ?_
 refine qq s rfl (y_neqN (i := ((r14).length)) (j := ((r19).length)) s rfl rfl) fun a s => ?_
 apply wN
 refine c_dec s rfl (fun hc24 => ?_) (fun hc24 => ?_)
 ·replace hg := br_t hg hc24
  apply wQ
  obtain ⟨r25, hr25, hg⟩ := bind_some hg
  apply wL
  refine l_seq rfl (l_call (cap := []) s rfl func10 rfl (by kernel_rfl) rfl rfl (c_law41_exampleHolds n _ _ s.lt (s.ft 7 rfl) r25 hr25) fun v28 a w hK hp s => ?_)
  obtain rfl := hp
  refine asg s rfl rfl fun a s => ?_
  apply wN
  apply wp_ret
  refine p_thenR ?_
  obtain rfl := Option.some.inj hg
  refine fin1 (fn := Tryz.f4) s rfl (r_tmp s rfl) ?_
  exact rfl
 replace hg := br_f hg hc24
 apply wp_skip
 apply pN
 apply wQ
 obtain ⟨r30, hr30, hg⟩ := bind_some hg
 obtain ⟨r33, hr33, hg⟩ := bind_some hg
 obtain ⟨r36, hr36, hg⟩ := bind_some hg
 rcases Bool.eq_false_or_eq_true (r36) with hs39 | hs39
 ·replace hg := br_t hg hs39
  obtain ⟨r40, hr40, hg⟩ := bind_some hg
  refine d_plan s [] [(0, some 1000), (1, some 0), (2, some 0), (4, some 1000), (5, some 0), (6, some 0), (3, none), (7, none), (8, none), (9, none), (10, none), (11, none), (12, none)] rfl (by kernel_rfl) (by kernel_rfl) rfl ?_; clear s; intro wr hZ s; have hR := s.wd
  refine qt s hR rfl (y_loadAll (kk := 1000) s rfl rfl underlying26 rfl rfl) fun a s => ?_
  refine qt s hR rfl (y_move s rfl) fun a s => ?_
  refine qt s hR rfl (y_move s rfl) fun a s => ?_
  refine qt s hR rfl (y_loadAll (kk := 1000) s rfl rfl underlying26 rfl rfl) fun a s => ?_
  refine qt s hR rfl (y_move s rfl) fun a s => ?_
  refine qt s hR rfl (y_move s rfl) fun a s => ?_
  refine l_take s rfl rfl (l_call (cap := []) s rfl func17 rfl (by kernel_rfl) rfl rfl (c_scope_Below n _ _ s.lt m_ (Ap03) (cp03) (Ap04) (cp04) (Ap05) (cp05) (s.ft 101 rfl) (s.ft 102 rfl) (s.ft 103 rfl) r14 (Au18a1) (cu18a1) (s.ft 106 rfl) label_ r30 hr30) fun v43 a w hK hp s => ?_)
  replace hZ := Nat.le_trans hZ hK.size; refine ⟨fun g _ h => h.grow hK, ?_⟩; clear hK
  obtain ⟨Au44a1, cu44a1, rfl, hu44a1⟩ := hp
  replace s := s.ns 111 hu44a1
  refine l_take s rfl rfl (l_call (cap := []) s rfl func18 rfl (by kernel_rfl) rfl rfl (c_r41_Below n _ _ s.lt m_ (Ap03) (cp03) (Ap04) (cp04) (Ap05) (cp05) (s.ft 101 rfl) (s.ft 102 rfl) (s.ft 103 rfl) r14 (Au18a1) (cu18a1) (s.ft 106 rfl) label_ r33 hr33) fun v45 a w hK hp s => ?_)
  replace hZ := Nat.le_trans hZ hK.size; refine ⟨fun g _ h => h.grow hK, ?_⟩; clear hK
  obtain ⟨Au46a1, cu46a1, rfl, hu46a1⟩ := hp
  replace s := s.ns 112 hu46a1
  refine l_take s rfl rfl (l_call (cap := []) s rfl func11 rfl (by kernel_rfl) rfl rfl (c_r41_Same n _ _ s.lt r30 (Au44a1) (cu44a1) (s.ft 111 rfl) r33 (Au46a1) (cu46a1) (s.ft 112 rfl) r36 hr36) fun v47 a w hK hp s => ?_)
  replace hZ := Nat.le_trans hZ hK.size; refine ⟨fun g _ h => h.grow hK, ?_⟩; clear hK
  obtain rfl := hp.trans (congrArg Value.bool hs39)
  refine l_take s rfl rfl (l_quiet s rfl rfl (y_move s rfl) fun a s => ?_); refine ⟨fun g _ h => h, ?_⟩
  refine l_take s rfl ⟨_, _, _, rfl, rfl, rfl, rfl⟩ (l_call (cap := []) s rfl func10 rfl (by kernel_rfl) rfl rfl (c_law41_exampleHolds n _ _ s.lt (s.ft 7 rfl) r40 hr40) fun v49 a w hK hp s => ?_)
  replace hZ := Nat.le_trans hZ hK.size; refine ⟨fun g _ h => h.grow hK, ?_⟩; clear hK
  obtain rfl := hp
  refine l_take s rfl rfl (l_quiet s rfl rfl (y_pick_t s rfl rfl) fun a s => ?_); refine ⟨fun g _ h => h, ?_⟩
  refine l_take s rfl rfl (l_quiet s rfl rfl (y_assign s rfl) fun a s => ?_); refine ⟨fun g _ h => h, ?_⟩
  clear hR hZ
  apply pN
  apply wp_ret
  obtain rfl := Option.some.inj hg
  refine fin1 (fn := Tryz.f4) s rfl (r_tmp s rfl) ?_
  exact rfl
 replace hg := br_n hg hs39
 refine d_plan s [] [(0, some 1000), (1, some 0), (2, some 0), (4, some 1000), (5, some 0), (6, some 0), (3, none), (7, none), (8, none), (9, none), (10, none), (11, none), (12, none)] rfl (by kernel_rfl) (by kernel_rfl) rfl ?_; clear s; intro wr hZ s; have hR := s.wd
 refine qt s hR rfl (y_loadAll (kk := 1000) s rfl rfl underlying26 rfl rfl) fun a s => ?_
 refine qt s hR rfl (y_move s rfl) fun a s => ?_
 refine qt s hR rfl (y_move s rfl) fun a s => ?_
 refine qt s hR rfl (y_loadAll (kk := 1000) s rfl rfl underlying26 rfl rfl) fun a s => ?_
 refine qt s hR rfl (y_move s rfl) fun a s => ?_
 refine qt s hR rfl (y_move s rfl) fun a s => ?_
 refine l_take s rfl rfl (l_call (cap := []) s rfl func17 rfl (by kernel_rfl) rfl rfl (c_scope_Below n _ _ s.lt m_ (Ap03) (cp03) (Ap04) (cp04) (Ap05) (cp05) (s.ft 101 rfl) (s.ft 102 rfl) (s.ft 103 rfl) r14 (Au18a1) (cu18a1) (s.ft 106 rfl) label_ r30 hr30) fun v51 a w hK hp s => ?_)
 replace hZ := Nat.le_trans hZ hK.size; refine ⟨fun g _ h => h.grow hK, ?_⟩; clear hK
 obtain ⟨Au52a1, cu52a1, rfl, hu52a1⟩ := hp
 replace s := s.ns 113 hu52a1
 refine l_take s rfl rfl (l_call (cap := []) s rfl func18 rfl (by kernel_rfl) rfl rfl (c_r41_Below n _ _ s.lt m_ (Ap03) (cp03) (Ap04) (cp04) (Ap05) (cp05) (s.ft 101 rfl) (s.ft 102 rfl) (s.ft 103 rfl) r14 (Au18a1) (cu18a1) (s.ft 106 rfl) label_ r33 hr33) fun v53 a w hK hp s => ?_)
 replace hZ := Nat.le_trans hZ hK.size; refine ⟨fun g _ h => h.grow hK, ?_⟩; clear hK
 obtain ⟨Au54a1, cu54a1, rfl, hu54a1⟩ := hp
 replace s := s.ns 114 hu54a1
 refine l_take s rfl rfl (l_call (cap := []) s rfl func11 rfl (by kernel_rfl) rfl rfl (c_r41_Same n _ _ s.lt r30 (Au52a1) (cu52a1) (s.ft 113 rfl) r33 (Au54a1) (cu54a1) (s.ft 114 rfl) r36 hr36) fun v55 a w hK hp s => ?_)
 replace hZ := Nat.le_trans hZ hK.size; refine ⟨fun g _ h => h.grow hK, ?_⟩; clear hK
 obtain rfl := hp.trans (congrArg Value.bool hs39)
 refine l_take s rfl rfl (l_quiet s rfl rfl (y_move s rfl) fun a s => ?_); refine ⟨fun g _ h => h, ?_⟩
 refine l_pass s rfl ⟨_, _, _, rfl, rfl, rfl, rfl⟩ rfl rfl fun a s => ?_
 refine l_take s rfl rfl (l_quiet s rfl rfl (y_pick_f s rfl rfl) fun a s => ?_); refine ⟨fun g _ h => h, ?_⟩
 refine l_take s rfl rfl (l_quiet s rfl rfl (y_assign s rfl) fun a s => ?_); refine ⟨fun g _ h => h, ?_⟩
 clear hR hZ
 apply pN
 apply wp_ret
 obtain rfl := Option.some.inj hg
 refine fin1 (fn := Tryz.f4) s rfl (r_tmp s rfl) ?_
 exact rfl
end Go.Proofs.YtegboboemepifaaGreatDoor

