/- Chapter 03: the walk of PosetExtremes -/
import Derived.Test.YtoeolfnjblibpaaW8
namespace Go.Proofs.Ytoeolfnjblibpaa
open Go.Gl Go.RowKit Try
set_option linter.unusedVariables false
set_option linter.unusedSimpArgs false
set_option maxRecDepth 4000

set_option maxHeartbeats 400000 in
theorem c_law03_PosetExtremes (n : Nat) (M : Bs) (w0 : World) (hM : ∀ b, M b → b < w0.heap.size) (d_ : (List TypeDecl)) (Ap01 : Option Addr) (cp01 : Nat) (hp01 : SlR RTypeDecl M w0 Ap01 (d_).length cp01 (d_)) (names_ : (List (List UInt8))) (Ap11 : Option Addr) (cp11 : Nat) (hp11 : SlR Rep.str M w0 Ap11 (names_).length cp11 (names_)) (r : Bool) (hg : law03_PosetExtremes n d_ names_ = some r) :
    Calls Try.prog 6 [.slice (Ap01) ((d_).length) (cp01), .slice (Ap11) ((names_).length) (cp11)].toArray w0 (Ret noB w0 fun v w => v = .bool (r)) := by
 unfold law03_PosetExtremes at hg
 refine enter M noB func6 rfl rfl hM ?_
 intro a s
 replace s := s.es 101 hp01
 replace s := s.es 102 hp11
 apply wR
 refine asg s rfl rfl fun a s => ?_
 apply wN
 apply wQ
 apply wQ
 obtain ⟨k1, hg, hk1⟩ := jn_some hg
 refine c_post (fun a w => ∃ (t_2 : Bool), k1 t_2 = some r ∧ St (⟨Try.f6.ntmps, M, noB, w0⟩ : Ctx) [(0, sl Ap01 (d_) cp01), (1, sl Ap11 (names_) cp11), (12, .bool (t_2))] [] [(101, slF RTypeDecl (Ap01) ((d_).length) (cp01) (d_)), (102, slF Rep.str (Ap11) ((names_).length) (cp11) (names_))] a w) ?_ ?_
 ·obtain ⟨r3, hr3, hg⟩ := bind_some hg
  rcases Bool.eq_false_or_eq_true (!(r3)) with hs6 | hs6
  ·replace hg := br_t hg hs6
   apply wL
   refine mv s rfl rfl fun a s => ?_
   refine l_seq rfl (l_call (cap := []) s rfl func18 rfl (by kernel_rfl) rfl rfl (c_law03_valid n _ _ s.lt d_ (Ap01) (cp01) (s.ft 101 rfl) r3 hr3) fun v7 a w hK hp s => ?_)
   obtain rfl := hp
   refine qq s rfl (yl_b (y_not s rfl) hs6) fun a s => ?_
   refine mv s rfl rfl fun a s => ?_
   refine gn s rfl fun a s => ?_
   refine gn s rfl fun a s => ?_
   refine gn s rfl fun a s => ?_
   refine qq s rfl (y_pick_t s rfl rfl) fun a s => ?_
   apply wN
   exact ⟨(true), hg, (s.sb rfl rfl rfl)⟩
  replace hg := br_n hg hs6
  apply wL
  refine mv s rfl rfl fun a s => ?_
  refine l_seq rfl (l_call (cap := []) s rfl func18 rfl (by kernel_rfl) rfl rfl (c_law03_valid n _ _ s.lt d_ (Ap01) (cp01) (s.ft 101 rfl) r3 hr3) fun v9 a w hK hp s => ?_)
  obtain rfl := hp
  refine qq s rfl (yl_b (y_not s rfl) hs6) fun a s => ?_
  refine mv s rfl rfl fun a s => ?_
  refine gm s rfl rfl fun a s => ?_
  refine gy s rfl (y_lenSlice s rfl underlying27) fun a s => ?_
  refine gy s rfl (y_gtrN (i := ((names_).length)) (j := 30) s rfl rfl) fun a s => ?_
  refine qq s rfl (y_pick_f s rfl rfl) fun a s => ?_
  apply wN
  exact ⟨(decide ((30 : Nat) < ((names_).length))), hg, (s.sb rfl rfl rfl)⟩
 clear s a; rintro a w ⟨t_2, hg, s⟩
 subst hk1
 refine c_cond s rfl (fun hc11 => ?_) (fun hc11 => ?_)
 ·replace hg := br_t hg hc11
  apply wQ
  obtain ⟨r12, hr12, hg⟩ := bind_some hg
  apply wL
  refine l_seq rfl (l_call (cap := []) s rfl func12 rfl (by kernel_rfl) rfl rfl (c_law03_exampleHolds n _ _ s.lt  r12 hr12) fun v15 a w hK hp s => ?_)
  obtain rfl := hp
  refine asg s rfl rfl fun a s => ?_
  apply wN
  apply wp_ret
  refine p_thenR ?_
  obtain rfl := Option.some.inj hg
  refine fin1 (fn := Try.f6) s rfl (r_tmp s rfl) ?_
  exact rfl
 replace hg := br_n hg hc11
 apply wp_skip
 apply pN
 apply wQ
 obtain ⟨r17, hr17, hg⟩ := bind_some hg
 obtain ⟨r20, hr20, hg⟩ := bind_some hg
 obtain ⟨r23, hr23, hg⟩ := bind_some hg
 rcases Bool.eq_false_or_eq_true (r23) with hs26 | hs26
 ·replace hg := br_t hg hs26
  obtain ⟨r27, hr27, hg⟩ := bind_some hg
  obtain ⟨r30, hr30, hg⟩ := bind_some hg
  obtain ⟨r33, hr33, hg⟩ := bind_some hg
  rcases Bool.eq_false_or_eq_true (r33) with hs36 | hs36
  ·replace hg := br_t hg hs36
   obtain ⟨r37, hr37, hg⟩ := bind_some hg
   apply wL
   refine mv s rfl rfl fun a s => ?_
   refine mv s rfl rfl fun a s => ?_
   refine l_seq rfl (l_call (cap := []) s rfl func24 rfl (by kernel_rfl) rfl rfl (c_poset_Maximal n _ _ s.lt d_ (Ap01) (cp01) (s.ft 101 rfl) names_ (Ap11) (cp11) (s.ft 102 rfl) r17 hr17) fun v40 a w hK hp s => ?_)
   obtain ⟨Au41a1, cu41a1, rfl, hu41a1⟩ := hp
   replace s := s.ns 107 hu41a1
   refine mv s rfl rfl fun a s => ?_
   refine mv s rfl rfl fun a s => ?_
   refine l_seq rfl (l_call (cap := []) s rfl func25 rfl (by kernel_rfl) rfl rfl (c_r03_Maximal n _ _ s.lt d_ (Ap01) (cp01) (s.ft 101 rfl) names_ (Ap11) (cp11) (s.ft 102 rfl) r20 hr20) fun v42 a w hK hp s => ?_)
   obtain ⟨Au43a1, cu43a1, rfl, hu43a1⟩ := hp
   replace s := s.ns 108 hu43a1
   refine l_seq rfl (l_call (cap := []) s rfl func17 rfl (by kernel_rfl) rfl rfl (c_r03_SameStrings n _ _ s.lt r17 (Au41a1) (cu41a1) (s.ft 107 rfl) r20 (Au43a1) (cu43a1) (s.ft 108 rfl) r23 hr23) fun v44 a w hK hp s => ?_)
   obtain rfl := hp.trans (congrArg Value.bool hs26)
   refine mv s rfl rfl fun a s => ?_
   refine gm s rfl rfl fun a s => ?_
   refine gm s rfl rfl fun a s => ?_
   refine gl s rfl (l_call (cap := []) s rfl func26 rfl (by kernel_rfl) rfl rfl (c_poset_Minimal n _ _ s.lt d_ (Ap01) (cp01) (s.ft 101 rfl) names_ (Ap11) (cp11) (s.ft 102 rfl) r27 hr27) fun v46 a w hK hp s => ?_)
   obtain ⟨Au47a1, cu47a1, rfl, hu47a1⟩ := hp
   replace s := s.ns 109 hu47a1
   refine gm s rfl rfl fun a s => ?_
   refine gm s rfl rfl fun a s => ?_
   refine gl s rfl (l_call (cap := []) s rfl func27 rfl (by kernel_rfl) rfl rfl (c_r03_Minimal n _ _ s.lt d_ (Ap01) (cp01) (s.ft 101 rfl) names_ (Ap11) (cp11) (s.ft 102 rfl) r30 hr30) fun v48 a w hK hp s => ?_)
   obtain ⟨Au49a1, cu49a1, rfl, hu49a1⟩ := hp
   replace s := s.ns 110 hu49a1
   refine gl s rfl (l_call (cap := []) s rfl func17 rfl (by kernel_rfl) rfl rfl (c_r03_SameStrings n _ _ s.lt r27 (Au47a1) (cu47a1) (s.ft 109 rfl) r30 (Au49a1) (cu49a1) (s.ft 110 rfl) r33 hr33) fun v50 a w hK hp s => ?_)
   obtain rfl := hp.trans (congrArg Value.bool hs36)
   refine qq s rfl (y_pick_t s rfl rfl) fun a s => ?_
   refine mv s rfl rfl fun a s => ?_
   refine gl s rfl (l_call (cap := []) s rfl func12 rfl (by kernel_rfl) rfl rfl (c_law03_exampleHolds n _ _ s.lt  r37 hr37) fun v52 a w hK hp s => ?_)
   obtain rfl := hp
   refine qq s rfl (y_pick_t s rfl rfl) fun a s => ?_
   refine asg s rfl rfl fun a s => ?_
   apply wN
   apply wp_ret
   obtain rfl := Option.some.inj hg
   refine fin1 (fn := Try.f6) s rfl (r_tmp s rfl) ?_
   exact rfl
  replace hg := br_n hg hs36
  apply wL
  refine mv s rfl rfl fun a s => ?_
  refine mv s rfl rfl fun a s => ?_
  refine l_seq rfl (l_call (cap := []) s rfl func24 rfl (by kernel_rfl) rfl rfl (c_poset_Maximal n _ _ s.lt d_ (Ap01) (cp01) (s.ft 101 rfl) names_ (Ap11) (cp11) (s.ft 102 rfl) r17 hr17) fun v54 a w hK hp s => ?_)
  obtain ⟨Au55a1, cu55a1, rfl, hu55a1⟩ := hp
  replace s := s.ns 111 hu55a1
  refine mv s rfl rfl fun a s => ?_
  refine mv s rfl rfl fun a s => ?_
  refine l_seq rfl (l_call (cap := []) s rfl func25 rfl (by kernel_rfl) rfl rfl (c_r03_Maximal n _ _ s.lt d_ (Ap01) (cp01) (s.ft 101 rfl) names_ (Ap11) (cp11) (s.ft 102 rfl) r20 hr20) fun v56 a w hK hp s => ?_)
  obtain ⟨Au57a1, cu57a1, rfl, hu57a1⟩ := hp
  replace s := s.ns 112 hu57a1
  refine l_seq rfl (l_call (cap := []) s rfl func17 rfl (by kernel_rfl) rfl rfl (c_r03_SameStrings n _ _ s.lt r17 (Au55a1) (cu55a1) (s.ft 111 rfl) r20 (Au57a1) (cu57a1) (s.ft 112 rfl) r23 hr23) fun v58 a w hK hp s => ?_)
  obtain rfl := hp.trans (congrArg Value.bool hs26)
  refine mv s rfl rfl fun a s => ?_
  refine gm s rfl rfl fun a s => ?_
  refine gm s rfl rfl fun a s => ?_
  refine gl s rfl (l_call (cap := []) s rfl func26 rfl (by kernel_rfl) rfl rfl (c_poset_Minimal n _ _ s.lt d_ (Ap01) (cp01) (s.ft 101 rfl) names_ (Ap11) (cp11) (s.ft 102 rfl) r27 hr27) fun v60 a w hK hp s => ?_)
  obtain ⟨Au61a1, cu61a1, rfl, hu61a1⟩ := hp
  replace s := s.ns 113 hu61a1
  refine gm s rfl rfl fun a s => ?_
  refine gm s rfl rfl fun a s => ?_
  refine gl s rfl (l_call (cap := []) s rfl func27 rfl (by kernel_rfl) rfl rfl (c_r03_Minimal n _ _ s.lt d_ (Ap01) (cp01) (s.ft 101 rfl) names_ (Ap11) (cp11) (s.ft 102 rfl) r30 hr30) fun v62 a w hK hp s => ?_)
  obtain ⟨Au63a1, cu63a1, rfl, hu63a1⟩ := hp
  replace s := s.ns 114 hu63a1
  refine gl s rfl (l_call (cap := []) s rfl func17 rfl (by kernel_rfl) rfl rfl (c_r03_SameStrings n _ _ s.lt r27 (Au61a1) (cu61a1) (s.ft 113 rfl) r30 (Au63a1) (cu63a1) (s.ft 114 rfl) r33 hr33) fun v64 a w hK hp s => ?_)
  obtain rfl := hp.trans (congrArg Value.bool hs36)
  refine qq s rfl (y_pick_t s rfl rfl) fun a s => ?_
  refine mv s rfl rfl fun a s => ?_
  refine gn s rfl fun a s => ?_
  refine qq s rfl (y_pick_f s rfl rfl) fun a s => ?_
  refine asg s rfl rfl fun a s => ?_
  apply wN
  apply wp_ret
  obtain rfl := Option.some.inj hg
  refine fin1 (fn := Try.f6) s rfl (r_tmp s rfl) ?_
  exact rfl
 replace hg := br_n hg hs26
 apply wL
 refine mv s rfl rfl fun a s => ?_
 refine mv s rfl rfl fun a s => ?_
 refine l_seq rfl (l_call (cap := []) s rfl func24 rfl (by kernel_rfl) rfl rfl (c_poset_Maximal n _ _ s.lt d_ (Ap01) (cp01) (s.ft 101 rfl) names_ (Ap11) (cp11) (s.ft 102 rfl) r17 hr17) fun v66 a w hK hp s => ?_)
 obtain ⟨Au67a1, cu67a1, rfl, hu67a1⟩ := hp
 replace s := s.ns 115 hu67a1
 refine mv s rfl rfl fun a s => ?_
 refine mv s rfl rfl fun a s => ?_
 refine l_seq rfl (l_call (cap := []) s rfl func25 rfl (by kernel_rfl) rfl rfl (c_r03_Maximal n _ _ s.lt d_ (Ap01) (cp01) (s.ft 101 rfl) names_ (Ap11) (cp11) (s.ft 102 rfl) r20 hr20) fun v68 a w hK hp s => ?_)
 obtain ⟨Au69a1, cu69a1, rfl, hu69a1⟩ := hp
 replace s := s.ns 116 hu69a1
 refine l_seq rfl (l_call (cap := []) s rfl func17 rfl (by kernel_rfl) rfl rfl (c_r03_SameStrings n _ _ s.lt r17 (Au67a1) (cu67a1) (s.ft 115 rfl) r20 (Au69a1) (cu69a1) (s.ft 116 rfl) r23 hr23) fun v70 a w hK hp s => ?_)
 obtain rfl := hp.trans (congrArg Value.bool hs26)
 refine mv s rfl rfl fun a s => ?_
 refine gn s rfl fun a s => ?_
 refine gn s rfl fun a s => ?_
 refine gn s rfl fun a s => ?_
 refine gn s rfl fun a s => ?_
 refine gn s rfl fun a s => ?_
 refine gn s rfl fun a s => ?_
 refine gn s rfl fun a s => ?_
 refine qq s rfl (y_pick_f s rfl rfl) fun a s => ?_
 refine mv s rfl rfl fun a s => ?_
 refine gn s rfl fun a s => ?_
 refine qq s rfl (y_pick_f s rfl rfl) fun a s => ?_
 refine asg s rfl rfl fun a s => ?_
 apply wN
 apply wp_ret
 obtain rfl := Option.some.inj hg
 refine fin1 (fn := Try.f6) s rfl (r_tmp s rfl) ?_
 exact rfl
end Go.Proofs.Ytoeolfnjblibpaa
