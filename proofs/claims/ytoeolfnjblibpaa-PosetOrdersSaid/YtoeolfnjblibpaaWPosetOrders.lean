/- Chapter 03: the walk of PosetOrders -/
import Derived.Test.YtoeolfnjblibpaaW8
namespace Go.Proofs.Ytoeolfnjblibpaa
open Go.Gl Go.RowKit Try
set_option linter.unusedVariables false
set_option linter.unusedSimpArgs false
set_option maxRecDepth 4000

set_option maxHeartbeats 400000 in
theorem c_law03_PosetOrders (n : Nat) (M : Bs) (w0 : World) (hM : ∀ b, M b → b < w0.heap.size) (d_ : (List TypeDecl)) (Ap01 : Option Addr) (cp01 : Nat) (hp01 : SlR RTypeDecl M w0 Ap01 (d_).length cp01 (d_)) (r : Bool) (hg : law03_PosetOrders n d_ = some r) :
    Calls Try.prog 4 [.slice (Ap01) ((d_).length) (cp01)].toArray w0 (Ret noB w0 fun v w => v = .bool (r)) := by
 unfold law03_PosetOrders at hg
 refine enter M noB func4 rfl rfl hM ?_
 intro a s
 replace s := s.es 101 hp01
 apply wR
 refine asg s rfl rfl fun a s => ?_
 apply wN
 apply wQ
 apply wQ
 obtain ⟨r1, hr1, hg⟩ := bind_some hg
 apply wL
 refine mv s rfl rfl fun a s => ?_
 refine l_seq rfl (l_call (cap := []) s rfl func11 rfl (by kernel_rfl) rfl rfl (c_r03_Light n _ _ s.lt d_ (Ap01) (cp01) (s.ft 101 rfl) r1 hr1) fun v4 a w hK hp s => ?_)
 obtain rfl := hp
 refine qq s rfl (y_not s rfl) fun a s => ?_
 apply wN
 refine c_cond s rfl (fun hc6 => ?_) (fun hc6 => ?_)
 ·replace hg := br_t hg hc6
  apply wQ
  obtain ⟨r7, hr7, hg⟩ := bind_some hg
  apply wL
  refine l_seq rfl (l_call (cap := []) s rfl func12 rfl (by kernel_rfl) rfl rfl (c_law03_exampleHolds n _ _ s.lt  r7 hr7) fun v10 a w hK hp s => ?_)
  obtain rfl := hp
  refine asg s rfl rfl fun a s => ?_
  apply wN
  apply wp_ret
  refine p_thenR ?_
  obtain rfl := Option.some.inj hg
  refine fin1 (fn := Try.f4) s rfl (r_tmp s rfl) ?_
  exact rfl
 replace hg := br_n hg hc6
 apply wp_skip
 apply pN
 apply wQ
 obtain ⟨r12, hr12, hg⟩ := bind_some hg
 apply wL
 refine mv s rfl rfl fun a s => ?_
 refine l_seq rfl (l_call (cap := []) s rfl func15 rfl (by kernel_rfl) rfl rfl (c_poset_Order n _ _ s.lt d_ (Ap01) (cp01) (s.ft 101 rfl) r12 hr12) fun v15 a w hK hp s => ?_)
 obtain ⟨Au16a1, cu16a1, rfl, hu16a1⟩ := hp
 replace s := s.ns 103 hu16a1
 refine mv s rfl rfl fun a s => ?_
 refine qq s rfl (y_extract s rfl rfl) fun a s => ?_
 refine qq s rfl (y_extract s rfl rfl) fun a s => ?_
 refine asg s rfl rfl fun a s => ?_
 refine asg s rfl rfl fun a s => ?_
 apply wN
 apply wQ
 obtain ⟨r17, hr17, hg⟩ := bind_some hg
 apply wL
 refine mv s rfl rfl fun a s => ?_
 refine l_seq rfl (l_call (cap := []) s rfl func16 rfl (by kernel_rfl) rfl rfl (c_r03_Order n _ _ s.lt d_ (Ap01) (cp01) (s.ft 101 rfl) r17 hr17) fun v20 a w hK hp s => ?_)
 obtain ⟨Au21a1, cu21a1, rfl, hu21a1⟩ := hp
 replace s := s.ns 105 hu21a1
 refine mv s rfl rfl fun a s => ?_
 refine qq s rfl (y_extract s rfl rfl) fun a s => ?_
 refine qq s rfl (y_extract s rfl rfl) fun a s => ?_
 refine asg s rfl rfl fun a s => ?_
 refine asg s rfl rfl fun a s => ?_
 apply wN
 apply wQ
 rcases Decidable.em (r12.2 = r17.2) with hs22 | hs22
 ·have hs22e := decide_eq_true hs22
  replace hg := br_t hg hs22
  obtain ⟨r23, hr23, hg⟩ := bind_some hg
  rcases Bool.eq_false_or_eq_true (r23) with hs26 | hs26
  ·replace hg := br_t hg hs26
   obtain ⟨r27, hr27, hg⟩ := bind_some hg
   apply wL
   refine mv s rfl rfl fun a s => ?_
   refine mv s rfl rfl fun a s => ?_
   refine qq s rfl (yl_b (y_eql s rfl rfl) hs22e) fun a s => ?_
   refine mv s rfl rfl fun a s => ?_
   refine gm s rfl rfl fun a s => ?_
   refine gm s rfl rfl fun a s => ?_
   refine gl s rfl (l_call (cap := []) s rfl func17 rfl (by kernel_rfl) rfl rfl (c_r03_SameStrings n _ _ s.lt r12.1 (Au16a1) (cu16a1) (s.ft 103 rfl) r17.1 (Au21a1) (cu21a1) (s.ft 105 rfl) r23 hr23) fun v30 a w hK hp s => ?_)
   obtain rfl := hp.trans (congrArg Value.bool hs26)
   refine qq s rfl (y_pick_t s rfl rfl) fun a s => ?_
   refine mv s rfl rfl fun a s => ?_
   refine gl s rfl (l_call (cap := []) s rfl func12 rfl (by kernel_rfl) rfl rfl (c_law03_exampleHolds n _ _ s.lt  r27 hr27) fun v32 a w hK hp s => ?_)
   obtain rfl := hp
   refine qq s rfl (y_pick_t s rfl rfl) fun a s => ?_
   refine asg s rfl rfl fun a s => ?_
   apply wN
   apply wp_ret
   obtain rfl := Option.some.inj hg
   refine fin1 (fn := Try.f4) s rfl (r_tmp s rfl) ?_
   exact rfl
  replace hg := br_n hg hs26
  apply wL
  refine mv s rfl rfl fun a s => ?_
  refine mv s rfl rfl fun a s => ?_
  refine qq s rfl (yl_b (y_eql s rfl rfl) hs22e) fun a s => ?_
  refine mv s rfl rfl fun a s => ?_
  refine gm s rfl rfl fun a s => ?_
  refine gm s rfl rfl fun a s => ?_
  refine gl s rfl (l_call (cap := []) s rfl func17 rfl (by kernel_rfl) rfl rfl (c_r03_SameStrings n _ _ s.lt r12.1 (Au16a1) (cu16a1) (s.ft 103 rfl) r17.1 (Au21a1) (cu21a1) (s.ft 105 rfl) r23 hr23) fun v34 a w hK hp s => ?_)
  obtain rfl := hp.trans (congrArg Value.bool hs26)
  refine qq s rfl (y_pick_t s rfl rfl) fun a s => ?_
  refine mv s rfl rfl fun a s => ?_
  refine gn s rfl fun a s => ?_
  refine qq s rfl (y_pick_f s rfl rfl) fun a s => ?_
  refine asg s rfl rfl fun a s => ?_
  apply wN
  apply wp_ret
  obtain rfl := Option.some.inj hg
  refine fin1 (fn := Try.f4) s rfl (r_tmp s rfl) ?_
  exact rfl
 have hs22e := decide_eq_false hs22
 replace hg := br_f hg hs22
 apply wL
 refine mv s rfl rfl fun a s => ?_
 refine mv s rfl rfl fun a s => ?_
 refine qq s rfl (yl_b (y_eql s rfl rfl) hs22e) fun a s => ?_
 refine mv s rfl rfl fun a s => ?_
 refine gn s rfl fun a s => ?_
 refine gn s rfl fun a s => ?_
 refine gn s rfl fun a s => ?_
 refine qq s rfl (y_pick_f s rfl rfl) fun a s => ?_
 refine mv s rfl rfl fun a s => ?_
 refine gn s rfl fun a s => ?_
 refine qq s rfl (y_pick_f s rfl rfl) fun a s => ?_
 refine asg s rfl rfl fun a s => ?_
 apply wN
 apply wp_ret
 obtain rfl := Option.some.inj hg
 refine fin1 (fn := Try.f4) s rfl (r_tmp s rfl) ?_
 exact rfl
end Go.Proofs.Ytoeolfnjblibpaa
