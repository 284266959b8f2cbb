/- Chapter 22: the walk of ModuleOrders -/
import Derived.Test.YtbhjplflnkidgaaGreatWEx
namespace Go.Proofs.YtbhjplflnkidgaaGreat
open Go.Gl Go.RowKit Tryz
set_option linter.unusedVariables false
set_option linter.unusedSimpArgs false
set_option maxRecDepth 4000

set_option maxHeartbeats 1000000 in
theorem c_law22_ModuleOrders (n : Nat) (M : Bs) (w0 : World) (hM : ∀ b, M b → b < w0.heap.size) (l_ : (List Module)) (Ap01 : Option Addr) (cp01 : Nat) (hp01 : SlR RModule M w0 Ap01 (l_).length cp01 (l_)) (main_ : (List UInt8)) (lp11 : (main_).length ≤ 9223372036854775807) (r : Bool) (hg : law22_ModuleOrders n l_ main_ = some r) :
    Calls Tryz.prog 3 [.slice (Ap01) ((l_).length) (cp01), .string (bs (main_))].toArray w0 (Ret noB w0 fun v w => v = .bool (r)) := by
 unfold law22_ModuleOrders at hg
 refine enter M noB func3 rfl rfl hM ?_
 intro a s
 replace s := s.es 101 hp01
 apply wR
 refine asg s rfl rfl fun a s => ?_
 apply wN
 apply wQ
 apply wQ
 obtain ⟨r1, hr1, hg⟩ := bind_some hg
 apply wL
 refine mv s rfl rfl fun a s => ?_
 refine lc s rfl func10 (by kernel_rfl) (c_law22_light n _ _ s.lt _ _ _ (s.ft 101 rfl) _ hr1) fun v4 a w hK hp s => ?_
 obtain rfl := hp
 refine qq s rfl (y_not s rfl) fun a s => ?_
 apply wN
 refine c_cond s rfl (fun hc6 => ?_) (fun hc6 => ?_)
 ·replace hg := br_t hg hc6
  apply wQ
  obtain ⟨r7, hr7, hg⟩ := bind_some hg
  apply wL
  refine lc s rfl func11 (by kernel_rfl) (c_law22_exampleHolds n _ _ s.lt  _ hr7) fun v10 a w hK hp s => ?_
  obtain rfl := hp
  refine asg s rfl rfl fun a s => ?_
  apply wN
  apply wp_ret
  refine p_thenR ?_
  obtain rfl := Option.some.inj hg
  refine fin1 (fn := Tryz.f3) s rfl (r_tmp s rfl) ?_
  exact rfl
 replace hg := br_n hg hc6
 apply wp_skip
 apply pN
 apply wQ
 obtain ⟨r12, hr12, hg⟩ := bind_some hg
 apply wL
 refine mv s rfl rfl fun a s => ?_
 refine mv s rfl rfl fun a s => ?_
 refine lc s rfl func12 (by kernel_rfl) (c_module_Order n _ _ s.lt _ _ _ (s.ft 101 rfl) _ (by omega) _ hr12) fun v15 a w hK hp s => ?_
 obtain ⟨Au16a1, cu16a1, rfl, hu16a1⟩ := hp
 replace s := s.ns 103 hu16a1
 refine mv s rfl rfl fun a s => ?_
 refine qq s rfl (y_extract s rfl rfl) fun a s => ?_
 refine qq s rfl (y_extract s rfl rfl) fun a s => ?_
 refine asg s rfl rfl fun a s => ?_
 refine asg s rfl rfl fun a s => ?_
 apply wN
 apply wQ
 obtain ⟨r17, hr17, hg⟩ := bind_some hg
 apply wL
 refine mv s rfl rfl fun a s => ?_
 refine mv s rfl rfl fun a s => ?_
 refine lc s rfl func13 (by kernel_rfl) (c_r22_Order n _ _ s.lt _ _ _ (s.ft 101 rfl) _ (by omega) _ hr17) fun v20 a w hK hp s => ?_
 obtain ⟨Au21a1, cu21a1, rfl, hu21a1⟩ := hp
 replace s := s.ns 105 hu21a1
 refine mv s rfl rfl fun a s => ?_
 refine qq s rfl (y_extract s rfl rfl) fun a s => ?_
 refine qq s rfl (y_extract s rfl rfl) fun a s => ?_
 refine asg s rfl rfl fun a s => ?_
 refine asg s rfl rfl fun a s => ?_
 apply wN
 apply wQ
 rcases Decidable.em (r12.2 = r17.2) with hs22 | hs22
 ·have hs22e := decide_eq_true hs22
  replace hg := br_t hg hs22
  obtain ⟨r23, hr23, hg⟩ := bind_some hg
  rcases Bool.eq_false_or_eq_true (r23) with hs26 | hs26
  ·replace hg := br_t hg hs26
   obtain ⟨r27, hr27, hg⟩ := bind_some hg
   apply wL
   refine mv s rfl rfl fun a s => ?_
   refine mv s rfl rfl fun a s => ?_
   refine qq s rfl (yl_b (y_eql s rfl rfl) hs22e) fun a s => ?_
   refine mv s rfl rfl fun a s => ?_
   refine gm s rfl rfl fun a s => ?_
   refine gm s rfl rfl fun a s => ?_
   refine gl s rfl (l_call (cap := []) s rfl func14 rfl (by kernel_rfl) rfl rfl (c_r01_Same n _ _ s.lt _ _ _ (s.ft 103 rfl) _ _ _ (s.ft 105 rfl) _ hr23) fun v30 a w hK hp s => ?_)
   obtain rfl := hp.trans (congrArg Value.bool hs26)
   refine qq s rfl (y_pick_t s rfl rfl) fun a s => ?_
   refine mv s rfl rfl fun a s => ?_
   refine gl s rfl (l_call (cap := []) s rfl func11 rfl (by kernel_rfl) rfl rfl (c_law22_exampleHolds n _ _ s.lt  _ hr27) fun v32 a w hK hp s => ?_)
   obtain rfl := hp
   refine qq s rfl (y_pick_t s rfl rfl) fun a s => ?_
   refine asg s rfl rfl fun a s => ?_
   apply wN
   apply wp_ret
   obtain rfl := Option.some.inj hg
   refine fin1 (fn := Tryz.f3) s rfl (r_tmp s rfl) ?_
   exact rfl
  replace hg := br_n hg hs26
  apply wL
  refine mv s rfl rfl fun a s => ?_
  refine mv s rfl rfl fun a s => ?_
  refine qq s rfl (yl_b (y_eql s rfl rfl) hs22e) fun a s => ?_
  refine mv s rfl rfl fun a s => ?_
  refine gm s rfl rfl fun a s => ?_
  refine gm s rfl rfl fun a s => ?_
  refine gl s rfl (l_call (cap := []) s rfl func14 rfl (by kernel_rfl) rfl rfl (c_r01_Same n _ _ s.lt _ _ _ (s.ft 103 rfl) _ _ _ (s.ft 105 rfl) _ hr23) fun v34 a w hK hp s => ?_)
  obtain rfl := hp.trans (congrArg Value.bool hs26)
  refine qq s rfl (y_pick_t s rfl rfl) fun a s => ?_
  refine mv s rfl rfl fun a s => ?_
  refine gn s rfl fun a s => ?_
  refine qq s rfl (y_pick_f s rfl rfl) fun a s => ?_
  refine asg s rfl rfl fun a s => ?_
  apply wN
  apply wp_ret
  obtain rfl := Option.some.inj hg
  refine fin1 (fn := Tryz.f3) s rfl (r_tmp s rfl) ?_
  exact rfl
 have hs22e := decide_eq_false hs22
 replace hg := br_f hg hs22
 apply wL
 refine mv s rfl rfl fun a s => ?_
 refine mv s rfl rfl fun a s => ?_
 refine qq s rfl (yl_b (y_eql s rfl rfl) hs22e) fun a s => ?_
 refine mv s rfl rfl fun a s => ?_
 refine gn s rfl fun a s => ?_
 refine gn s rfl fun a s => ?_
 refine gn s rfl fun a s => ?_
 refine qq s rfl (y_pick_f s rfl rfl) fun a s => ?_
 refine mv s rfl rfl fun a s => ?_
 refine gn s rfl fun a s => ?_
 refine qq s rfl (y_pick_f s rfl rfl) fun a s => ?_
 refine asg s rfl rfl fun a s => ?_
 apply wN
 apply wp_ret
 obtain rfl := Option.some.inj hg
 refine fin1 (fn := Tryz.f3) s rfl (r_tmp s rfl) ?_
 exact rfl
end Go.Proofs.YtbhjplflnkidgaaGreat

