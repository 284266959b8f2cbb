/- Chapter 03: the walk of PosetChecks -/
import Derived.Test.YtoeolfnjblibpaaW8
namespace Go.Proofs.Ytoeolfnjblibpaa
open Go.Gl Go.RowKit Try
set_option linter.unusedVariables false
set_option linter.unusedSimpArgs false
set_option maxRecDepth 4000

set_option maxHeartbeats 400000 in
theorem c_law03_PosetChecks (n : Nat) (M : Bs) (w0 : World) (hM : ∀ b, M b → b < w0.heap.size) (d_ : (List TypeDecl)) (Ap01 : Option Addr) (cp01 : Nat) (hp01 : SlR RTypeDecl M w0 Ap01 (d_).length cp01 (d_)) (r : Bool) (hg : law03_PosetChecks n d_ = some r) :
    Calls Try.prog 3 [.slice (Ap01) ((d_).length) (cp01)].toArray w0 (Ret noB w0 fun v w => v = .bool (r)) := by
 unfold law03_PosetChecks at hg
 refine enter M noB func3 rfl rfl hM ?_
 intro a s
 replace s := s.es 101 hp01
 apply wR
 refine asg s rfl rfl fun a s => ?_
 apply wN
 apply wQ
 apply wQ
 obtain ⟨r1, hr1, hg⟩ := bind_some hg
 apply wL
 refine mv s rfl rfl fun a s => ?_
 refine l_seq rfl (l_call (cap := []) s rfl func11 rfl (by kernel_rfl) rfl rfl (c_r03_Light n _ _ s.lt d_ (Ap01) (cp01) (s.ft 101 rfl) r1 hr1) fun v4 a w hK hp s => ?_)
 obtain rfl := hp
 refine qq s rfl (y_not s rfl) fun a s => ?_
 apply wN
 refine c_cond s rfl (fun hc6 => ?_) (fun hc6 => ?_)
 ·replace hg := br_t hg hc6
  apply wQ
  obtain ⟨r7, hr7, hg⟩ := bind_some hg
  apply wL
  refine l_seq rfl (l_call (cap := []) s rfl func12 rfl (by kernel_rfl) rfl rfl (c_law03_exampleHolds n _ _ s.lt  r7 hr7) fun v10 a w hK hp s => ?_)
  obtain rfl := hp
  refine asg s rfl rfl fun a s => ?_
  apply wN
  apply wp_ret
  refine p_thenR ?_
  obtain rfl := Option.some.inj hg
  refine fin1 (fn := Try.f3) s rfl (r_tmp s rfl) ?_
  exact rfl
 replace hg := br_n hg hc6
 apply wp_skip
 apply pN
 apply wQ
 obtain ⟨r12, hr12, hg⟩ := bind_some hg
 obtain ⟨r15, hr15, hg⟩ := bind_some hg
 rcases Decidable.em (r12 = r15) with hs18 | hs18
 ·have hs18e := decide_eq_true hs18
  replace hg := br_t hg hs18
  obtain ⟨r19, hr19, hg⟩ := bind_some hg
  apply wL
  refine mv s rfl rfl fun a s => ?_
  refine l_seq rfl (l_call (cap := []) s rfl func13 rfl (by kernel_rfl) rfl rfl (c_poset_Check n _ _ s.lt d_ (Ap01) (cp01) (s.ft 101 rfl) r12 hr12) fun v22 a w hK hp s => ?_)
  obtain rfl := hp
  refine mv s rfl rfl fun a s => ?_
  refine l_seq rfl (l_call (cap := []) s rfl func14 rfl (by kernel_rfl) rfl rfl (c_r03_Check n _ _ s.lt d_ (Ap01) (cp01) (s.ft 101 rfl) r15 hr15) fun v24 a w hK hp s => ?_)
  obtain rfl := hp
  refine qq s rfl (yl_b (y_eql s rfl rfl) hs18e) fun a s => ?_
  refine mv s rfl rfl fun a s => ?_
  refine gl s rfl (l_call (cap := []) s rfl func12 rfl (by kernel_rfl) rfl rfl (c_law03_exampleHolds n _ _ s.lt  r19 hr19) fun v26 a w hK hp s => ?_)
  obtain rfl := hp
  refine qq s rfl (y_pick_t s rfl rfl) fun a s => ?_
  refine asg s rfl rfl fun a s => ?_
  apply wN
  apply wp_ret
  obtain rfl := Option.some.inj hg
  refine fin1 (fn := Try.f3) s rfl (r_tmp s rfl) ?_
  exact rfl
 have hs18e := decide_eq_false hs18
 replace hg := br_f hg hs18
 apply wL
 refine mv s rfl rfl fun a s => ?_
 refine l_seq rfl (l_call (cap := []) s rfl func13 rfl (by kernel_rfl) rfl rfl (c_poset_Check n _ _ s.lt d_ (Ap01) (cp01) (s.ft 101 rfl) r12 hr12) fun v28 a w hK hp s => ?_)
 obtain rfl := hp
 refine mv s rfl rfl fun a s => ?_
 refine l_seq rfl (l_call (cap := []) s rfl func14 rfl (by kernel_rfl) rfl rfl (c_r03_Check n _ _ s.lt d_ (Ap01) (cp01) (s.ft 101 rfl) r15 hr15) fun v30 a w hK hp s => ?_)
 obtain rfl := hp
 refine qq s rfl (yl_b (y_eql s rfl rfl) hs18e) fun a s => ?_
 refine mv s rfl rfl fun a s => ?_
 refine gn s rfl fun a s => ?_
 refine qq s rfl (y_pick_f s rfl rfl) fun a s => ?_
 refine asg s rfl rfl fun a s => ?_
 apply wN
 apply wp_ret
 obtain rfl := Option.some.inj hg
 refine fin1 (fn := Try.f3) s rfl (r_tmp s rfl) ?_
 exact rfl
end Go.Proofs.Ytoeolfnjblibpaa
