/- Chapter 41: the walks, part 1 -/
import Derived.Test.YtegboboemepifaaGreatDoorD1
namespace Go.Proofs.YtegboboemepifaaGreatDoor
open Go.Gl Go.RowKit Tryz
set_option linter.unusedVariables false
set_option linter.unusedSimpArgs false
set_option maxRecDepth 4000

set_option maxHeartbeats 400000 in
theorem c_r39_sorted (n : Nat) (M : Bs) (w0 : World) (hM : ∀ b, M b → b < w0.heap.size) (s_ : (List UInt8)) (lp01 : (s_).length ≤ 9223372036854775807) (r : Bool) (hg : r39_sorted n s_ = some r) :
    Calls Tryz.prog 62 [.string (bs (s_))].toArray w0 (Ret noB w0 fun v w => v = .bool (r)) := by
 unfold r39_sorted at hg
 refine enter M noB func62 rfl rfl hM ?_
 intro a s
 apply wR
 refine asg s rfl rfl fun a s => ?_
 apply wN
 apply wQ
 rcases Decidable.em ((s_ : List UInt8) = [104]) with hs1 | hs1
 ·have hs1e := decide_eq_true hs1
  replace hg := br_t hg hs1
  apply wL
  refine mv s rfl rfl fun a s => ?_
  refine qq s rfl (yl_b (y_seq s rfl rfl) hs1e) fun a s => ?_
  refine mv s rfl rfl fun a s => ?_
  refine gn s rfl fun a s => ?_
  refine gn s rfl fun a s => ?_
  refine qq s rfl (y_pick_t s rfl rfl) fun a s => ?_
  refine mv s rfl rfl fun a s => ?_
  refine gn s rfl fun a s => ?_
  refine gn s rfl fun a s => ?_
  refine qq s rfl (y_pick_t s rfl rfl) fun a s => ?_
  refine mv s rfl rfl fun a s => ?_
  refine gn s rfl fun a s => ?_
  refine gn s rfl fun a s => ?_
  refine qq s rfl (y_pick_t s rfl rfl) fun a s => ?_
  refine asg s rfl rfl fun a s => ?_
  apply wN
  apply wp_ret
  obtain rfl := Option.some.inj hg
  refine fin1 (fn := Tryz.f62) s rfl (r_tmp s rfl) ?_
  exact rfl
 have hs1e := decide_eq_false hs1
 replace hg := br_f hg hs1
 rcases Decidable.em ((s_ : List UInt8) = [101]) with hs2 | hs2
 ·have hs2e := decide_eq_true hs2
  replace hg := br_t hg hs2
  apply wL
  refine mv s rfl rfl fun a s => ?_
  refine qq s rfl (yl_b (y_seq s rfl rfl) hs1e) fun a s => ?_
  refine mv s rfl rfl fun a s => ?_
  refine gm s rfl rfl fun a s => ?_
  refine gy s rfl (yl_b (y_seq s rfl rfl) hs2e) fun a s => ?_
  refine qq s rfl (y_pick_f s rfl rfl) fun a s => ?_
  refine mv s rfl rfl fun a s => ?_
  refine gn s rfl fun a s => ?_
  refine gn s rfl fun a s => ?_
  refine qq s rfl (y_pick_t s rfl rfl) fun a s => ?_
  refine mv s rfl rfl fun a s => ?_
  refine gn s rfl fun a s => ?_
  refine gn s rfl fun a s => ?_
  refine qq s rfl (y_pick_t s rfl rfl) fun a s => ?_
  refine asg s rfl rfl fun a s => ?_
  apply wN
  apply wp_ret
  obtain rfl := Option.some.inj hg
  refine fin1 (fn := Tryz.f62) s rfl (r_tmp s rfl) ?_
  exact rfl
 have hs2e := decide_eq_false hs2
 replace hg := br_f hg hs2
 rcases Decidable.em ((s_ : List UInt8) = [120]) with hs3 | hs3
 ·have hs3e := decide_eq_true hs3
  replace hg := br_t hg hs3
  apply wL
  refine mv s rfl rfl fun a s => ?_
  refine qq s rfl (yl_b (y_seq s rfl rfl) hs1e) fun a s => ?_
  refine mv s rfl rfl fun a s => ?_
  refine gm s rfl rfl fun a s => ?_
  refine gy s rfl (yl_b (y_seq s rfl rfl) hs2e) fun a s => ?_
  refine qq s rfl (y_pick_f s rfl rfl) fun a s => ?_
  refine mv s rfl rfl fun a s => ?_
  refine gm s rfl rfl fun a s => ?_
  refine gy s rfl (yl_b (y_seq s rfl rfl) hs3e) fun a s => ?_
  refine qq s rfl (y_pick_f s rfl rfl) fun a s => ?_
  refine mv s rfl rfl fun a s => ?_
  refine gn s rfl fun a s => ?_
  refine gn s rfl fun a s => ?_
  refine qq s rfl (y_pick_t s rfl rfl) fun a s => ?_
  refine asg s rfl rfl fun a s => ?_
  apply wN
  apply wp_ret
  obtain rfl := Option.some.inj hg
  refine fin1 (fn := Tryz.f62) s rfl (r_tmp s rfl) ?_
  exact rfl
 have hs3e := decide_eq_false hs3
 replace hg := br_f hg hs3
 apply wL
 refine mv s rfl rfl fun a s => ?_
 refine qq s rfl (yl_b (y_seq s rfl rfl) hs1e) fun a s => ?_
 refine mv s rfl rfl fun a s => ?_
 refine gm s rfl rfl fun a s => ?_
 refine gy s rfl (yl_b (y_seq s rfl rfl) hs2e) fun a s => ?_
 refine qq s rfl (y_pick_f s rfl rfl) fun a s => ?_
 refine mv s rfl rfl fun a s => ?_
 refine gm s rfl rfl fun a s => ?_
 refine gy s rfl (yl_b (y_seq s rfl rfl) hs3e) fun a s => ?_
 refine qq s rfl (y_pick_f s rfl rfl) fun a s => ?_
 refine mv s rfl rfl fun a s => ?_
 refine gm s rfl rfl fun a s => ?_
 refine gy s rfl (y_seq s rfl rfl) fun a s => ?_
 refine qq s rfl (y_pick_f s rfl rfl) fun a s => ?_
 refine asg s rfl rfl fun a s => ?_
 apply wN
 apply wp_ret
 obtain rfl := Option.some.inj hg
 refine fin1 (fn := Tryz.f62) s rfl (r_tmp s rfl) ?_
 exact rfl
set_option maxHeartbeats 400000 in
theorem c_r01_digit (n : Nat) (M : Bs) (w0 : World) (hM : ∀ b, M b → b < w0.heap.size) (c_ : UInt8) (r : Bool) (hg : r01_digit n c_ = some r) :
    Calls Tryz.prog 102 [.int .u8 (((c_.toNat : Nat) : Int))].toArray w0 (Ret noB w0 fun v w => v = .bool (r)) := by
 unfold r01_digit at hg
 refine enter M noB func102 rfl rfl hM ?_
 intro a s
 apply wR
 refine asg s rfl rfl fun a s => ?_
 apply wN
 apply wQ
 rcases Decidable.em ((48 : Nat) ≤ c_.toNat) with hs1 | hs1
 ·have hs1e := decide_eq_true hs1
  replace hg := br_t hg hs1
  apply wL
  refine mv s rfl rfl fun a s => ?_
  refine qq s rfl (yl_b (y_geqN (i := c_.toNat) (j := 48) s rfl rfl) hs1e) fun a s => ?_
  refine mv s rfl rfl fun a s => ?_
  refine gm s rfl rfl fun a s => ?_
  refine gy s rfl (y_leqN (i := c_.toNat) (j := 57) s rfl rfl) fun a s => ?_
  refine qq s rfl (y_pick_t s rfl rfl) fun a s => ?_
  refine asg s rfl rfl fun a s => ?_
  apply wN
  apply wp_ret
  obtain rfl := Option.some.inj hg
  refine fin1 (fn := Tryz.f102) s rfl (r_tmp s rfl) ?_
  exact rfl
 have hs1e := decide_eq_false hs1
 replace hg := br_f hg hs1
 apply wL
 refine mv s rfl rfl fun a s => ?_
 refine qq s rfl (yl_b (y_geqN (i := c_.toNat) (j := 48) s rfl rfl) hs1e) fun a s => ?_
 refine mv s rfl rfl fun a s => ?_
 refine gn s rfl fun a s => ?_
 refine gn s rfl fun a s => ?_
 refine qq s rfl (y_pick_f s rfl rfl) fun a s => ?_
 refine asg s rfl rfl fun a s => ?_
 apply wN
 apply wp_ret
 obtain rfl := Option.some.inj hg
 refine fin1 (fn := Tryz.f102) s rfl (r_tmp s rfl) ?_
 exact rfl
set_option maxHeartbeats 400000 in
theorem c_r01_upper (n : Nat) (M : Bs) (w0 : World) (hM : ∀ b, M b → b < w0.heap.size) (c_ : UInt8) (r : Bool) (hg : r01_upper n c_ = some r) :
    Calls Tryz.prog 121 [.int .u8 (((c_.toNat : Nat) : Int))].toArray w0 (Ret noB w0 fun v w => v = .bool (r)) := by
 unfold r01_upper at hg
 refine enter M noB func121 rfl rfl hM ?_
 intro a s
 apply wR
 refine asg s rfl rfl fun a s => ?_
 apply wN
 apply wQ
 rcases Decidable.em ((65 : Nat) ≤ c_.toNat) with hs1 | hs1
 ·have hs1e := decide_eq_true hs1
  replace hg := br_t hg hs1
  apply wL
  refine mv s rfl rfl fun a s => ?_
  refine qq s rfl (yl_b (y_geqN (i := c_.toNat) (j := 65) s rfl rfl) hs1e) fun a s => ?_
  refine mv s rfl rfl fun a s => ?_
  refine gm s rfl rfl fun a s => ?_
  refine gy s rfl (y_leqN (i := c_.toNat) (j := 90) s rfl rfl) fun a s => ?_
  refine qq s rfl (y_pick_t s rfl rfl) fun a s => ?_
  refine asg s rfl rfl fun a s => ?_
  apply wN
  apply wp_ret
  obtain rfl := Option.some.inj hg
  refine fin1 (fn := Tryz.f121) s rfl (r_tmp s rfl) ?_
  exact rfl
 have hs1e := decide_eq_false hs1
 replace hg := br_f hg hs1
 apply wL
 refine mv s rfl rfl fun a s => ?_
 refine qq s rfl (yl_b (y_geqN (i := c_.toNat) (j := 65) s rfl rfl) hs1e) fun a s => ?_
 refine mv s rfl rfl fun a s => ?_
 refine gn s rfl fun a s => ?_
 refine gn s rfl fun a s => ?_
 refine qq s rfl (y_pick_f s rfl rfl) fun a s => ?_
 refine asg s rfl rfl fun a s => ?_
 apply wN
 apply wp_ret
 obtain rfl := Option.some.inj hg
 refine fin1 (fn := Tryz.f121) s rfl (r_tmp s rfl) ?_
 exact rfl
set_option maxHeartbeats 400000 in
theorem c_r01_lower (n : Nat) (M : Bs) (w0 : World) (hM : ∀ b, M b → b < w0.heap.size) (c_ : UInt8) (r : Bool) (hg : r01_lower n c_ = some r) :
    Calls Tryz.prog 122 [.int .u8 (((c_.toNat : Nat) : Int))].toArray w0 (Ret noB w0 fun v w => v = .bool (r)) := by
 unfold r01_lower at hg
 refine enter M noB func122 rfl rfl hM ?_
 intro a s
 apply wR
 refine asg s rfl rfl fun a s => ?_
 apply wN
 apply wQ
 rcases Decidable.em ((97 : Nat) ≤ c_.toNat) with hs1 | hs1
 ·have hs1e := decide_eq_true hs1
  replace hg := br_t hg hs1
  apply wL
  refine mv s rfl rfl fun a s => ?_
  refine qq s rfl (yl_b (y_geqN (i := c_.toNat) (j := 97) s rfl rfl) hs1e) fun a s => ?_
  refine mv s rfl rfl fun a s => ?_
  refine gm s rfl rfl fun a s => ?_
  refine gy s rfl (y_leqN (i := c_.toNat) (j := 122) s rfl rfl) fun a s => ?_
  refine qq s rfl (y_pick_t s rfl rfl) fun a s => ?_
  refine asg s rfl rfl fun a s => ?_
  apply wN
  apply wp_ret
  obtain rfl := Option.some.inj hg
  refine fin1 (fn := Tryz.f122) s rfl (r_tmp s rfl) ?_
  exact rfl
 have hs1e := decide_eq_false hs1
 replace hg := br_f hg hs1
 apply wL
 refine mv s rfl rfl fun a s => ?_
 refine qq s rfl (yl_b (y_geqN (i := c_.toNat) (j := 97) s rfl rfl) hs1e) fun a s => ?_
 refine mv s rfl rfl fun a s => ?_
 refine gn s rfl fun a s => ?_
 refine gn s rfl fun a s => ?_
 refine qq s rfl (y_pick_f s rfl rfl) fun a s => ?_
 refine asg s rfl rfl fun a s => ?_
 apply wN
 apply wp_ret
 obtain rfl := Option.some.inj hg
 refine fin1 (fn := Tryz.f122) s rfl (r_tmp s rfl) ?_
 exact rfl
set_option maxHeartbeats 400000 in
theorem c_r01_part (n : Nat) (M : Bs) (w0 : World) (hM : ∀ b, M b → b < w0.heap.size) (c_ : UInt8) (big_ : Bool) (r : Bool) (hg : r01_part n c_ big_ = some r) :
    Calls Tryz.prog 115 [.int .u8 (((c_.toNat : Nat) : Int)), .bool (big_)].toArray w0 (Ret noB w0 fun v w => v = .bool (r)) := by
 unfold r01_part at hg
 refine enter M noB func115 rfl rfl hM ?_
 intro a s
 apply wR
 refine asg s rfl rfl fun a s => ?_
 apply wN
 apply wQ
 obtain ⟨r1, hr1, hg⟩ := bind_some hg
 rcases Bool.eq_false_or_eq_true (r1) with hs4 | hs4
 ·replace hg := br_t hg hs4
  apply wL
  refine mv s rfl rfl fun a s => ?_
  refine l_seq rfl (l_call (cap := []) s rfl func102 rfl (by kernel_rfl) rfl rfl (c_r01_digit n _ _ s.lt c_ r1 hr1) fun v5 a w hK hp s => ?_)
  obtain rfl := hp.trans (congrArg Value.bool hs4)
  refine mv s rfl rfl fun a s => ?_
  refine gn s rfl fun a s => ?_
  refine gn s rfl fun a s => ?_
  refine qq s rfl (y_pick_t s rfl rfl) fun a s => ?_
  refine mv s rfl rfl fun a s => ?_
  refine gn s rfl fun a s => ?_
  refine gn s rfl fun a s => ?_
  refine gn s rfl fun a s => ?_
  refine gn s rfl fun a s => ?_
  refine gn s rfl fun a s => ?_
  refine qq s rfl (y_pick_t s rfl rfl) fun a s => ?_
  refine mv s rfl rfl fun a s => ?_
  refine gn s rfl fun a s => ?_
  refine gn s rfl fun a s => ?_
  refine gn s rfl fun a s => ?_
  refine gn s rfl fun a s => ?_
  refine gn s rfl fun a s => ?_
  refine gn s rfl fun a s => ?_
  refine qq s rfl (y_pick_t s rfl rfl) fun a s => ?_
  refine asg s rfl rfl fun a s => ?_
  apply wN
  apply wp_ret
  obtain rfl := Option.some.inj hg
  refine fin1 (fn := Tryz.f115) s rfl (r_tmp s rfl) ?_
  exact rfl
 replace hg := br_n hg hs4
 rcases Decidable.em (c_.toNat = 45) with hs7 | hs7
 ·have hs7e := decide_eq_true hs7
  replace hg := br_t hg hs7
  apply wL
  refine mv s rfl rfl fun a s => ?_
  refine l_seq rfl (l_call (cap := []) s rfl func102 rfl (by kernel_rfl) rfl rfl (c_r01_digit n _ _ s.lt c_ r1 hr1) fun v8 a w hK hp s => ?_)
  obtain rfl := hp.trans (congrArg Value.bool hs4)
  refine mv s rfl rfl fun a s => ?_
  refine gm s rfl rfl fun a s => ?_
  refine gy s rfl (yl_b (y_eqlN (i := c_.toNat) (j := 45) s rfl rfl) hs7e) fun a s => ?_
  refine qq s rfl (y_pick_f s rfl rfl) fun a s => ?_
  refine mv s rfl rfl fun a s => ?_
  refine gn s rfl fun a s => ?_
  refine gn s rfl fun a s => ?_
  refine gn s rfl fun a s => ?_
  refine gn s rfl fun a s => ?_
  refine gn s rfl fun a s => ?_
  refine qq s rfl (y_pick_t s rfl rfl) fun a s => ?_
  refine mv s rfl rfl fun a s => ?_
  refine gn s rfl fun a s => ?_
  refine gn s rfl fun a s => ?_
  refine gn s rfl fun a s => ?_
  refine gn s rfl fun a s => ?_
  refine gn s rfl fun a s => ?_
  refine gn s rfl fun a s => ?_
  refine qq s rfl (y_pick_t s rfl rfl) fun a s => ?_
  refine asg s rfl rfl fun a s => ?_
  apply wN
  apply wp_ret
  obtain rfl := Option.some.inj hg
  refine fin1 (fn := Tryz.f115) s rfl (r_tmp s rfl) ?_
  exact rfl
 have hs7e := decide_eq_false hs7
 replace hg := br_f hg hs7
 rcases Bool.eq_false_or_eq_true (big_) with hs10 | hs10
 ·replace hg := br_t hg hs10
  obtain ⟨r11, hr11, hg⟩ := bind_some hg
  rcases Bool.eq_false_or_eq_true (r11) with hs14 | hs14
  ·replace hg := br_t hg hs14
   apply wL
   refine mv s rfl rfl fun a s => ?_
   refine l_seq rfl (l_call (cap := []) s rfl func102 rfl (by kernel_rfl) rfl rfl (c_r01_digit n _ _ s.lt c_ r1 hr1) fun v15 a w hK hp s => ?_)
   obtain rfl := hp.trans (congrArg Value.bool hs4)
   refine mv s rfl rfl fun a s => ?_
   refine gm s rfl rfl fun a s => ?_
   refine gy s rfl (yl_b (y_eqlN (i := c_.toNat) (j := 45) s rfl rfl) hs7e) fun a s => ?_
   refine qq s rfl (y_pick_f s rfl rfl) fun a s => ?_
   refine mv s rfl rfl fun a s => ?_
   refine gy s rfl (yl_b (y_move s rfl) hs10) fun a s => ?_
   refine gm s rfl rfl fun a s => ?_
   refine gm s rfl rfl fun a s => ?_
   refine gl s rfl (l_call (cap := []) s rfl func121 rfl (by kernel_rfl) rfl rfl (c_r01_upper n _ _ s.lt c_ r11 hr11) fun v17 a w hK hp s => ?_)
   obtain rfl := hp.trans (congrArg Value.bool hs14)
   refine gy s rfl (y_pick_t s rfl rfl) fun a s => ?_
   refine qq s rfl (y_pick_f s rfl rfl) fun a s => ?_
   refine mv s rfl rfl fun a s => ?_
   refine gn s rfl fun a s => ?_
   refine gn s rfl fun a s => ?_
   refine gn s rfl fun a s => ?_
   refine gn s rfl fun a s => ?_
   refine gn s rfl fun a s => ?_
   refine gn s rfl fun a s => ?_
   refine qq s rfl (y_pick_t s rfl rfl) fun a s => ?_
   refine asg s rfl rfl fun a s => ?_
   apply wN
   apply wp_ret
   obtain rfl := Option.some.inj hg
   refine fin1 (fn := Tryz.f115) s rfl (r_tmp s rfl) ?_
   exact rfl
  replace hg := br_n hg hs14
  apply wL
  refine mv s rfl rfl fun a s => ?_
  refine l_seq rfl (l_call (cap := []) s rfl func102 rfl (by kernel_rfl) rfl rfl (c_r01_digit n _ _ s.lt c_ r1 hr1) fun v19 a w hK hp s => ?_)
  obtain rfl := hp.trans (congrArg Value.bool hs4)
  refine mv s rfl rfl fun a s => ?_
  refine gm s rfl rfl fun a s => ?_
  refine gy s rfl (yl_b (y_eqlN (i := c_.toNat) (j := 45) s rfl rfl) hs7e) fun a s => ?_
  refine qq s rfl (y_pick_f s rfl rfl) fun a s => ?_
  refine mv s rfl rfl fun a s => ?_
  refine gy s rfl (yl_b (y_move s rfl) hs10) fun a s => ?_
  refine gm s rfl rfl fun a s => ?_
  refine gm s rfl rfl fun a s => ?_
  refine gl s rfl (l_call (cap := []) s rfl func121 rfl (by kernel_rfl) rfl rfl (c_r01_upper n _ _ s.lt c_ r11 hr11) fun v21 a w hK hp s => ?_)
  obtain rfl := hp.trans (congrArg Value.bool hs14)
  refine gy s rfl (y_pick_t s rfl rfl) fun a s => ?_
  refine qq s rfl (y_pick_f s rfl rfl) fun a s => ?_
  refine mv s rfl rfl fun a s => ?_
  refine gy s rfl (yl_b (y_move s rfl) hs10) fun a s => ?_
  refine gy s rfl (y_not s rfl) fun a s => ?_
  refine gm s rfl rfl fun a s => ?_
  refine gn s rfl fun a s => ?_
  refine gn s rfl fun a s => ?_
  refine gy s rfl (y_pick_f s rfl rfl) fun a s => ?_
  refine qq s rfl (y_pick_f s rfl rfl) fun a s => ?_
  refine asg s rfl rfl fun a s => ?_
  apply wN
  apply wp_ret
  obtain rfl := Option.some.inj hg
  refine fin1 (fn := Tryz.f115) s rfl (r_tmp s rfl) ?_
  exact rfl
 replace hg := br_n hg hs10
 obtain ⟨r23, hr23, hg⟩ := bind_some hg
 apply wL
 refine mv s rfl rfl fun a s => ?_
 refine l_seq rfl (l_call (cap := []) s rfl func102 rfl (by kernel_rfl) rfl rfl (c_r01_digit n _ _ s.lt c_ r1 hr1) fun v26 a w hK hp s => ?_)
 obtain rfl := hp.trans (congrArg Value.bool hs4)
 refine mv s rfl rfl fun a s => ?_
 refine gm s rfl rfl fun a s => ?_
 refine gy s rfl (yl_b (y_eqlN (i := c_.toNat) (j := 45) s rfl rfl) hs7e) fun a s => ?_
 refine qq s rfl (y_pick_f s rfl rfl) fun a s => ?_
 refine mv s rfl rfl fun a s => ?_
 refine gy s rfl (yl_b (y_move s rfl) hs10) fun a s => ?_
 refine gm s rfl rfl fun a s => ?_
 refine gn s rfl fun a s => ?_
 refine gn s rfl fun a s => ?_
 refine gy s rfl (y_pick_f s rfl rfl) fun a s => ?_
 refine qq s rfl (y_pick_f s rfl rfl) fun a s => ?_
 refine mv s rfl rfl fun a s => ?_
 refine gy s rfl (yl_b (y_move s rfl) hs10) fun a s => ?_
 refine gy s rfl (y_not s rfl) fun a s => ?_
 refine gm s rfl rfl fun a s => ?_
 refine gm s rfl rfl fun a s => ?_
 refine gl s rfl (l_call (cap := []) s rfl func122 rfl (by kernel_rfl) rfl rfl (c_r01_lower n _ _ s.lt c_ r23 hr23) fun v28 a w hK hp s => ?_)
 obtain rfl := hp
 refine gy s rfl (y_pick_t s rfl rfl) fun a s => ?_
 refine qq s rfl (y_pick_f s rfl rfl) fun a s => ?_
 refine asg s rfl rfl fun a s => ?_
 apply wN
 apply wp_ret
 obtain rfl := Option.some.inj hg
 refine fin1 (fn := Tryz.f115) s rfl (r_tmp s rfl) ?_
 exact rfl
set_option maxHeartbeats 400000 in
theorem c_r01_named (n : Nat) (M : Bs) (w0 : World) (hM : ∀ b, M b → b < w0.heap.size) (s_ : (List UInt8)) (lp01 : (s_).length ≤ 9223372036854775807) (big_ : Bool) (r : Bool) (hg : r01_named n s_ big_ = some r) :
    Calls Tryz.prog 101 [.string (bs (s_)), .bool (big_)].toArray w0 (Ret noB w0 fun v w => v = .bool (r)) := by
 unfold r01_named at hg
 refine enter M noB func101 rfl rfl hM ?_
 intro a s
 apply wR
 refine asg s rfl rfl fun a s => ?_
 apply wN
 apply wQ
 apply wQ
 obtain ⟨k1, hg, hk1⟩ := jn_some hg
 refine c_post (fun a w => ∃ (t_2 : Bool), k1 t_2 = some r ∧ St (⟨Tryz.f101.ntmps, M, noB, w0⟩ : Ctx) [(0, vT s_), (1, .bool (big_)), (23, .bool (t_2))] [] [] a w) ?_ ?_
 ·rcases Decidable.em (((s_).length) < 1) with hs3 | hs3
  ·have hs3e := decide_eq_true hs3
   replace hg := br_t hg hs3
   apply wL
   refine mv s rfl rfl fun a s => ?_
   refine qq s rfl (y_lenStrN s rfl underlying9) fun a s => ?_
   refine qq s rfl (yl_b (y_lssN (i := ((s_).length)) (j := 1) s rfl rfl) hs3e) fun a s => ?_
   refine mv s rfl rfl fun a s => ?_
   refine gn s rfl fun a s => ?_
   refine gn s rfl fun a s => ?_
   refine gn s rfl fun a s => ?_
   refine qq s rfl (y_pick_t s rfl rfl) fun a s => ?_
   refine mv s rfl rfl fun a s => ?_
   refine gn s rfl fun a s => ?_
   refine gn s rfl fun a s => ?_
   refine gn s rfl fun a s => ?_
   refine qq s rfl (y_pick_t s rfl rfl) fun a s => ?_
   refine mv s rfl rfl fun a s => ?_
   refine gn s rfl fun a s => ?_
   refine gn s rfl fun a s => ?_
   refine gn s rfl fun a s => ?_
   refine qq s rfl (y_pick_t s rfl rfl) fun a s => ?_
   apply wN
   exact ⟨(true), hg, (s.sb rfl rfl rfl)⟩
  have hs3e := decide_eq_false hs3
  replace hg := br_f hg hs3
  rcases Decidable.em ((32 : Nat) < ((s_).length)) with hs4 | hs4
  ·have hs4e := decide_eq_true hs4
   replace hg := br_t hg hs4
   apply wL
   refine mv s rfl rfl fun a s => ?_
   refine qq s rfl (y_lenStrN s rfl underlying9) fun a s => ?_
   refine qq s rfl (yl_b (y_lssN (i := ((s_).length)) (j := 1) s rfl rfl) hs3e) fun a s => ?_
   refine mv s rfl rfl fun a s => ?_
   refine gm s rfl rfl fun a s => ?_
   refine gy s rfl (y_lenStrN s rfl underlying9) fun a s => ?_
   refine gy s rfl (yl_b (y_gtrN (i := ((s_).length)) (j := 32) s rfl rfl) hs4e) fun a s => ?_
   refine qq s rfl (y_pick_f s rfl rfl) fun a s => ?_
   refine mv s rfl rfl fun a s => ?_
   refine gn s rfl fun a s => ?_
   refine gn s rfl fun a s => ?_
   refine gn s rfl fun a s => ?_
   refine qq s rfl (y_pick_t s rfl rfl) fun a s => ?_
   refine mv s rfl rfl fun a s => ?_
   refine gn s rfl fun a s => ?_
   refine gn s rfl fun a s => ?_
   refine gn s rfl fun a s => ?_
   refine qq s rfl (y_pick_t s rfl rfl) fun a s => ?_
   apply wN
   exact ⟨(true), hg, (s.sb rfl rfl rfl)⟩
  have hs4e := decide_eq_false hs4
  replace hg := br_f hg hs4
  obtain ⟨c5, hc5, hg⟩ := bind_some hg
  obtain ⟨r6, hr6, hg⟩ := bind_some hg
  rcases Bool.eq_false_or_eq_true (r6) with hs9 | hs9
  ·replace hg := br_t hg hs9
   apply wL
   refine mv s rfl rfl fun a s => ?_
   refine qq s rfl (y_lenStrN s rfl underlying9) fun a s => ?_
   refine qq s rfl (yl_b (y_lssN (i := ((s_).length)) (j := 1) s rfl rfl) hs3e) fun a s => ?_
   refine mv s rfl rfl fun a s => ?_
   refine gm s rfl rfl fun a s => ?_
   refine gy s rfl (y_lenStrN s rfl underlying9) fun a s => ?_
   refine gy s rfl (yl_b (y_gtrN (i := ((s_).length)) (j := 32) s rfl rfl) hs4e) fun a s => ?_
   refine qq s rfl (y_pick_f s rfl rfl) fun a s => ?_
   refine mv s rfl rfl fun a s => ?_
   refine gm s rfl rfl fun a s => ?_
   refine gy s rfl (y_indexN (i := 0) s rfl rfl underlying9 rfl hc5) fun a s => ?_
   refine gl s rfl (l_call (cap := []) s rfl func102 rfl (by kernel_rfl) rfl rfl (c_r01_digit n _ _ s.lt c5 r6 hr6) fun v10 a w hK hp s => ?_)
   obtain rfl := hp.trans (congrArg Value.bool hs9)
   refine qq s rfl (y_pick_f s rfl rfl) fun a s => ?_
   refine mv s rfl rfl fun a s => ?_
   refine gn s rfl fun a s => ?_
   refine gn s rfl fun a s => ?_
   refine gn s rfl fun a s => ?_
   refine qq s rfl (y_pick_t s rfl rfl) fun a s => ?_
   apply wN
   exact ⟨(true), hg, (s.sb rfl rfl rfl)⟩
  replace hg := br_n hg hs9
  apply wL
  refine mv s rfl rfl fun a s => ?_
  refine qq s rfl (y_lenStrN s rfl underlying9) fun a s => ?_
  refine qq s rfl (yl_b (y_lssN (i := ((s_).length)) (j := 1) s rfl rfl) hs3e) fun a s => ?_
  refine mv s rfl rfl fun a s => ?_
  refine gm s rfl rfl fun a s => ?_
  refine gy s rfl (y_lenStrN s rfl underlying9) fun a s => ?_
  refine gy s rfl (yl_b (y_gtrN (i := ((s_).length)) (j := 32) s rfl rfl) hs4e) fun a s => ?_
  refine qq s rfl (y_pick_f s rfl rfl) fun a s => ?_
  refine mv s rfl rfl fun a s => ?_
  refine gm s rfl rfl fun a s => ?_
  refine gy s rfl (y_indexN (i := 0) s rfl rfl underlying9 rfl hc5) fun a s => ?_
  refine gl s rfl (l_call (cap := []) s rfl func102 rfl (by kernel_rfl) rfl rfl (c_r01_digit n _ _ s.lt c5 r6 hr6) fun v12 a w hK hp s => ?_)
  obtain rfl := hp.trans (congrArg Value.bool hs9)
  refine qq s rfl (y_pick_f s rfl rfl) fun a s => ?_
  refine mv s rfl rfl fun a s => ?_
  refine gm s rfl rfl fun a s => ?_
  refine gy s rfl (y_indexN (i := 0) s rfl rfl underlying9 rfl hc5) fun a s => ?_
  refine gy s rfl (y_eqlN (i := c5.toNat) (j := 45) s rfl rfl) fun a s => ?_
  refine qq s rfl (y_pick_f s rfl rfl) fun a s => ?_
  apply wN
  exact ⟨(decide (c5.toNat = 45)), hg, (s.sb rfl rfl rfl)⟩
 clear s a; rintro a w ⟨t_2, hg, s⟩
 subst hk1
 refine c_cond s rfl (fun hc14 => ?_) (fun hc14 => ?_)
 ·replace hg := br_t hg hc14
  apply wR
  refine asg s rfl rfl fun a s => ?_
  apply wN
  apply wp_ret
  refine p_thenR ?_
  obtain rfl := Option.some.inj hg
  refine fin1 (fn := Tryz.f101) s rfl (r_tmp s rfl) ?_
  exact rfl
 replace hg := br_n hg hc14
 apply wp_skip
 apply pN
 apply wQ
 apply wR
 refine asg s rfl rfl fun a s => ?_
 apply wN
 apply wp_block
 refine c_loop (σ := Nat) (fun m1 a w => ∃ (i_15 : Nat), r01_named_L0 n s_ big_ m1 i_15 = some r ∧ St (⟨Tryz.f101.ntmps, M, noB, w0⟩ : Ctx) [(0, vT s_), (1, .bool (big_)), (5, vI (((i_15 : Nat) : Int)))] [] [] a w) (fun m1 => m1) n ⟨(0), hg, (s.sb rfl rfl rfl)⟩ ?_
 clear s a; rintro m1 a w ⟨i_15, hg, s⟩
 rcases m1 with _ | m1
 ·rw [r01_named_L0] at hg; cases hg
 rw [r01_named_L0] at hg
 apply wQ
 apply wR
 refine mv s rfl rfl fun a s => ?_
 refine mv s rfl rfl fun a s => ?_
 refine qq s rfl (y_lenStrN s rfl underlying9) fun a s => ?_
 refine qq s rfl (y_lssN (i := i_15) (j := ((s_).length)) s rfl rfl) fun a s => ?_
 apply wN
 refine c_dec s rfl (fun hc16 => ?_) (fun hc16 => ?_)
 ·replace hg := br_t hg hc16
  have hmx17 : (s_).length ≤ 9223372036854775807 := (by omega)
  apply wp_skip
  apply pN
  apply wQ
  apply wp_block
  apply wQ
  obtain ⟨c18, hc18, hg⟩ := bind_some hg
  obtain ⟨r19, hr19, hg⟩ := bind_some hg
  apply wL
  refine mv s rfl rfl fun a s => ?_
  refine mv s rfl rfl fun a s => ?_
  refine qq s rfl (y_indexN (i := i_15) s rfl rfl underlying9 rfl hc18) fun a s => ?_
  refine mv s rfl rfl fun a s => ?_
  refine l_seq rfl (l_call (cap := []) s rfl func115 rfl (by kernel_rfl) rfl rfl (c_r01_part n _ _ s.lt c18 big_ r19 hr19) fun v22 a w hK hp s => ?_)
  obtain rfl := hp
  refine qq s rfl (y_not s rfl) fun a s => ?_
  apply wN
  refine c_cond s rfl (fun hc24 => ?_) (fun hc24 => ?_)
  ·replace hg := br_t hg hc24
   apply wR
   refine asg s rfl rfl fun a s => ?_
   apply wN
   apply wp_ret
   refine p_inR ?_
   refine p_thenR ?_
   refine p_thenR ?_
   refine p_inR ?_
   refine p_thenR ?_
   obtain rfl := Option.some.inj hg
   refine fin1 (fn := Tryz.f101) s rfl (r_tmp s rfl) ?_
   exact rfl
  replace hg := br_n hg hc24
  apply wp_skip
  refine p_inN ?_
  apply pN
  apply wL
  refine mv s rfl rfl fun a s => ?_
  refine qq s rfl (y_addN (i := i_15) (j := 1) s rfl rfl (in64.2 (by omega))) fun a s => ?_
  refine asg s rfl rfl fun a s => ?_
  apply wN
  exact ⟨m1, Nat.lt_succ_self _, ⟨(i_15 + 1), hg, (s.sb rfl rfl rfl)⟩⟩
 replace hg := br_f hg hc16
 apply wp_exit
 refine p_then ?_
 refine p_then ?_
 refine p_in ?_
 apply pN
 apply wR
 refine asg s rfl rfl fun a s => ?_
 apply wN
 apply wp_ret
 obtain rfl := Option.some.inj hg
 refine fin1 (fn := Tryz.f101) s rfl (r_tmp s rfl) ?_
 exact rfl
set_option maxHeartbeats 400000 in
theorem c_r01_Name (n : Nat) (M : Bs) (w0 : World) (hM : ∀ b, M b → b < w0.heap.size) (s_ : (List UInt8)) (lp01 : (s_).length ≤ 9223372036854775807) (r : Bool) (hg : r01_Name n s_ = some r) :
    Calls Tryz.prog 80 [.string (bs (s_))].toArray w0 (Ret noB w0 fun v w => v = .bool (r)) := by
 unfold r01_Name at hg
 refine enter M noB func80 rfl rfl hM ?_
 intro a s
 apply wR
 refine asg s rfl rfl fun a s => ?_
 apply wN
 apply wQ
 obtain ⟨r1, hr1, hg⟩ := bind_some hg
 apply wL
 refine mv s rfl rfl fun a s => ?_
 refine l_seq rfl (l_call (cap := []) s rfl func101 rfl (by kernel_rfl) rfl rfl (c_r01_named n _ _ s.lt s_ (by omega) false r1 hr1) fun v4 a w hK hp s => ?_)
 obtain rfl := hp
 refine asg s rfl rfl fun a s => ?_
 apply wN
 apply wp_ret
 obtain rfl := Option.some.inj hg
 refine fin1 (fn := Tryz.f80) s rfl (r_tmp s rfl) ?_
 exact rfl
set_option maxHeartbeats 400000 in
theorem c_r01_Feature (n : Nat) (M : Bs) (w0 : World) (hM : ∀ b, M b → b < w0.heap.size) (s_ : (List UInt8)) (lp01 : (s_).length ≤ 9223372036854775807) (r : Bool) (hg : r01_Feature n s_ = some r) :
    Calls Tryz.prog 81 [.string (bs (s_))].toArray w0 (Ret noB w0 fun v w => v = .bool (r)) := by
 unfold r01_Feature at hg
 refine enter M noB func81 rfl rfl hM ?_
 intro a s
 apply wR
 refine asg s rfl rfl fun a s => ?_
 apply wN
 apply wQ
 obtain ⟨r1, hr1, hg⟩ := bind_some hg
 apply wL
 refine mv s rfl rfl fun a s => ?_
 refine l_seq rfl (l_call (cap := []) s rfl func101 rfl (by kernel_rfl) rfl rfl (c_r01_named n _ _ s.lt s_ (by omega) true r1 hr1) fun v4 a w hK hp s => ?_)
 obtain rfl := hp
 refine asg s rfl rfl fun a s => ?_
 apply wN
 apply wp_ret
 obtain rfl := Option.some.inj hg
 refine fin1 (fn := Tryz.f81) s rfl (r_tmp s rfl) ?_
 exact rfl
set_option maxHeartbeats 400000 in
theorem c_r39_predication (n : Nat) (M : Bs) (w0 : World) (hM : ∀ b, M b → b < w0.heap.size) (e_ : EP) (Ap03 : Option Addr) (cp03 : Nat) (lp01 : (e_.Pred).length ≤ 9223372036854775807) (hp03 : SlR RArg M w0 Ap03 (e_.Args).length cp03 (e_.Args)) (r : Int) (hg : r39_predication n e_ = some r) :
    Calls Tryz.prog 63 [.agg #[.string (bs (e_.Pred)), .int .i64 (e_.Label), .slice (Ap03) ((e_.Args).length) (cp03)]].toArray w0 (Ret noB w0 fun v w => v = .int .i64 (r)) := by
 unfold r39_predication at hg
 refine enter M noB func63 rfl rfl hM ?_
 intro a s
 replace s := s.es 101 hp03
 apply wR
 refine l_seq rfl (l_box (zs := [vT (e_.Pred), vI (e_.Label), sl Ap03 (e_.Args) cp03]) s 1000 rfl rfl rfl rfl fun b2 a w hb hK s => ?_)
 refine asg s rfl rfl fun a s => ?_
 apply wN
 apply wQ
 apply wQ
 obtain ⟨r3, hr3, hg⟩ := bind_some hg
 apply wL
 refine qq s rfl (y_boxField (o' := 0) s rfl underlying43 rfl rfl rfl) fun a s => ?_
 refine qq s rfl (y_loadBox1 (kk := 1000) s rfl rfl rfl underlying9 rfl) fun a s => ?_
 refine l_seq rfl (l_call (cap := []) s rfl func80 rfl (by kernel_rfl) rfl rfl (c_r01_Name n _ _ s.lt e_.Pred (by omega) r3 hr3) fun v6 a w hK hp s => ?_)
 obtain rfl := hp
 refine qq s rfl (y_not s rfl) fun a s => ?_
 apply wN
 refine c_cond s rfl (fun hc8 => ?_) (fun hc8 => ?_)
 ·replace hg := br_t hg hc8
  apply wR
  refine asg s rfl rfl fun a s => ?_
  apply wN
  apply wp_ret
  refine p_thenR ?_
  obtain rfl := Option.some.inj hg
  refine fin1 (fn := Tryz.f63) s rfl (r_tmp s rfl) ?_
  exact rfl
 replace hg := br_n hg hc8
 apply wp_skip
 apply pN
 apply wQ
 apply wR
 refine asg s rfl rfl fun a s => ?_
 apply wN
 apply wp_block
 refine c_loop (σ := Nat) (fun m1 a w => ∃ (i_9 : Nat), r39_predication_L0 n e_ m1 i_9 = some r ∧ St (⟨Tryz.f63.ntmps, M, noB, w0⟩ : Ctx) [(1, vP b2 0), (3, vI (((i_9 : Nat) : Int)))] [(1000, Ob.box b2 [vT (e_.Pred), vI (e_.Label), sl Ap03 (e_.Args) cp03] 43)] [(101, slF RArg (Ap03) ((e_.Args).length) (cp03) (e_.Args))] a w) (fun m1 => m1) n ⟨(0), hg, (s.sb rfl rfl rfl)⟩ ?_
 clear s a; rintro m1 a w ⟨i_9, hg, s⟩
 rcases m1 with _ | m1
 ·rw [r39_predication_L0] at hg; cases hg
 rw [r39_predication_L0] at hg
 apply wQ
 apply wR
 refine mv s rfl rfl fun a s => ?_
 refine qq s rfl (y_boxField (o' := 2) s rfl underlying43 rfl rfl rfl) fun a s => ?_
 refine qq s rfl (y_loadBox1 (kk := 1000) s rfl rfl rfl underlying41 rfl) fun a s => ?_
 refine qq s rfl (y_lenSlice s rfl underlying41) fun a s => ?_
 refine qq s rfl (y_lssN (i := i_9) (j := ((e_.Args).length)) s rfl rfl) fun a s => ?_
 apply wN
 refine c_dec s rfl (fun hc10 => ?_) (fun hc10 => ?_)
 ·replace hg := br_t hg hc10
  have hmx11 := SlR.mx (s.ft 101 rfl)
  apply wp_skip
  apply pN
  apply wQ
  apply wp_block
  apply wQ
  apply wQ
  obtain ⟨k12, hg, hk12⟩ := jn_some hg
  refine c_post (fun a w => ∃ (t_13 : Bool), k12 t_13 = some r ∧ St (⟨Tryz.f63.ntmps, M, noB, w0⟩ : Ctx) [(1, vP b2 0), (3, vI (((i_9 : Nat) : Int))), (31, .bool (t_13))] [(1000, Ob.box b2 [vT (e_.Pred), vI (e_.Label), sl Ap03 (e_.Args) cp03] 43)] [(101, slF RArg (Ap03) ((e_.Args).length) (cp03) (e_.Args))] a w) ?_ ?_
  ·obtain ⟨x15, hx15, hg⟩ := bind_some hg
   obtain ⟨r17, hr17, hg⟩ := bind_some hg
   rcases Bool.eq_false_or_eq_true (!(r17)) with hs20 | hs20
   ·replace hg := br_t hg hs20
    apply wL
    refine qq s rfl (y_boxField (o' := 2) s rfl underlying43 rfl rfl rfl) fun a s => ?_
    refine qq s rfl (y_loadBox1 (kk := 1000) s rfl rfl rfl underlying41 rfl) fun a s => ?_
    refine mv s rfl rfl fun a s => ?_
    obtain ⟨p21, hep21, hpp21⟩ := SlR.elemX (s.ft 101 rfl) hx15
    refine qq s rfl (y_elem (sz := 2) (i := i_9) s rfl rfl underlying41 rfl hep21 rfl (lt_of_get hx15)) fun a s => ?_
    refine qq s rfl (y_ptrField (o' := 0) s rfl underlying45 rfl rfl rfl) fun a s => ?_
    obtain ⟨hlq22, hmq22, csq22, hdq22, hcq22⟩ := hpp21
    obtain ⟨rfl, lq221⟩ := RArg.open hdq22
    refine qq s rfl (y_ldp1 s rfl hlq22 hmq22 (hcq22 0 _ rfl) underlying9 rfl) fun a s => ?_
    refine l_seq rfl (l_call (cap := []) s rfl func81 rfl (by kernel_rfl) rfl rfl (c_r01_Feature n _ _ s.lt x15.Role (by omega) r17 hr17) fun v23 a w hK hp s => ?_)
    obtain rfl := hp
    refine qq s rfl (yl_b (y_not s rfl) hs20) fun a s => ?_
    refine mv s rfl rfl fun a s => ?_
    refine gn s rfl fun a s => ?_
    refine gn s rfl fun a s => ?_
    refine gn s rfl fun a s => ?_
    refine gn s rfl fun a s => ?_
    refine gn s rfl fun a s => ?_
    refine gn s rfl fun a s => ?_
    refine gn s rfl fun a s => ?_
    refine qq s rfl (y_pick_t s rfl rfl) fun a s => ?_
    apply wN
    exact ⟨(true), hg, (s.sb rfl rfl rfl)⟩
   replace hg := br_n hg hs20
   apply wL
   refine qq s rfl (y_boxField (o' := 2) s rfl underlying43 rfl rfl rfl) fun a s => ?_
   refine qq s rfl (y_loadBox1 (kk := 1000) s rfl rfl rfl underlying41 rfl) fun a s => ?_
   refine mv s rfl rfl fun a s => ?_
   obtain ⟨p27, hep27, hpp27⟩ := SlR.elemX (s.ft 101 rfl) hx15
   refine qq s rfl (y_elem (sz := 2) (i := i_9) s rfl rfl underlying41 rfl hep27 rfl (lt_of_get hx15)) fun a s => ?_
   refine qq s rfl (y_ptrField (o' := 0) s rfl underlying45 rfl rfl rfl) fun a s => ?_
   obtain ⟨hlq28, hmq28, csq28, hdq28, hcq28⟩ := hpp27
   obtain ⟨rfl, lq281⟩ := RArg.open hdq28
   refine qq s rfl (y_ldp1 s rfl hlq28 hmq28 (hcq28 0 _ rfl) underlying9 rfl) fun a s => ?_
   refine l_seq rfl (l_call (cap := []) s rfl func81 rfl (by kernel_rfl) rfl rfl (c_r01_Feature n _ _ s.lt x15.Role (by omega) r17 hr17) fun v29 a w hK hp s => ?_)
   obtain rfl := hp
   refine qq s rfl (yl_b (y_not s rfl) hs20) fun a s => ?_
   refine mv s rfl rfl fun a s => ?_
   refine gy s rfl (y_boxField (o' := 2) s rfl underlying43 rfl rfl rfl) fun a s => ?_
   refine gy s rfl (y_loadBox1 (kk := 1000) s rfl rfl rfl underlying41 rfl) fun a s => ?_
   refine gm s rfl rfl fun a s => ?_
   obtain ⟨p31, hep31, hpp31⟩ := SlR.elemX (s.ft 101 rfl) hx15
   refine gy s rfl (y_elem (sz := 2) (i := i_9) s rfl rfl underlying41 rfl hep31 rfl (lt_of_get hx15)) fun a s => ?_
   refine gy s rfl (y_ptrField (o' := 0) s rfl underlying45 rfl rfl rfl) fun a s => ?_
   obtain ⟨hlq32, hmq32, csq32, hdq32, hcq32⟩ := hpp31
   obtain ⟨rfl, lq321⟩ := RArg.open hdq32
   refine gy s rfl (y_ldp1 s rfl hlq32 hmq32 (hcq32 0 _ rfl) underlying9 rfl) fun a s => ?_
   refine gy s rfl (y_seq s rfl rfl) fun a s => ?_
   refine qq s rfl (y_pick_f s rfl rfl) fun a s => ?_
   apply wN
   exact ⟨(decide ((x15.Role : List UInt8) = [76, 65, 66, 69, 76])), hg, (s.sb rfl rfl rfl)⟩
  clear s a; rintro a w ⟨t_13, hg, s⟩
  subst hk12
  refine c_cond s rfl (fun hc33 => ?_) (fun hc33 => ?_)
  ·replace hg := br_t hg hc33
   apply wR
   refine asg s rfl rfl fun a s => ?_
   apply wN
   apply wp_ret
   refine p_thenR ?_
   refine p_inR ?_
   refine p_thenR ?_
   refine p_thenR ?_
   refine p_inR ?_
   refine p_thenR ?_
   obtain rfl := Option.some.inj hg
   refine fin1 (fn := Tryz.f63) s rfl (r_tmp s rfl) ?_
   exact rfl
  replace hg := br_n hg hc33
  apply wp_skip
  apply pN
  apply wQ
  obtain ⟨k34, hg, hk34⟩ := jn_some hg
  refine c_post (fun a w => ∃ (t_35 : Bool), k34 t_35 = some r ∧ St (⟨Tryz.f63.ntmps, M, noB, w0⟩ : Ctx) [(1, vP b2 0), (3, vI (((i_9 : Nat) : Int))), (49, .bool (t_35))] [(1000, Ob.box b2 [vT (e_.Pred), vI (e_.Label), sl Ap03 (e_.Args) cp03] 43)] [(101, slF RArg (Ap03) ((e_.Args).length) (cp03) (e_.Args))] a w) ?_ ?_
  ·rcases Decidable.em ((0 : Nat) < i_9) with hs36 | hs36
   ·have hs36e := decide_eq_true hs36
    replace hg := br_t hg hs36
    obtain ⟨x38, hx38, hg⟩ := bind_some hg
    obtain ⟨x41, hx41, hg⟩ := bind_some hg
    refine d_plan s [] [(0, some 0), (1, some 0), (2, some 0), (3, some 0), (4, some 1000), (5, some 0), (6, some 0), (7, some 0), (8, some 0), (9, some 0), (10, some 1000), (11, some 0), (12, some 0), (13, some 0), (14, some 0), (15, some 0), (16, some 0), (17, some 0)] rfl (by kernel_rfl) (by kernel_rfl) rfl ?_; clear s; intro wr hZ s; have hR := s.wd
    refine qt s hR rfl (y_move s rfl) fun a s => ?_
    refine qt s hR rfl (yl_b (y_gtrN (i := i_9) (j := 0) s rfl rfl) hs36e) fun a s => ?_
    refine qt s hR rfl (y_move s rfl) fun a s => ?_
    refine qg s hR rfl (y_boxField (o' := 2) s rfl underlying43 rfl rfl rfl) fun a s => ?_
    refine qg s hR rfl (y_loadBox1 (kk := 1000) s rfl rfl rfl underlying41 rfl) fun a s => ?_
    refine qg s hR rfl (y_move s rfl) fun a s => ?_
    obtain ⟨p43, hep43, hpp43⟩ := SlR.elemX (s.ft 101 rfl) hx38
    refine qg s hR rfl (y_elem (sz := 2) (i := i_9) s rfl rfl underlying41 rfl hep43 rfl (lt_of_get hx38)) fun a s => ?_
    refine qg s hR rfl (y_ptrField (o' := 0) s rfl underlying45 rfl rfl rfl) fun a s => ?_
    obtain ⟨hlq44, hmq44, csq44, hdq44, hcq44⟩ := hpp43
    obtain ⟨rfl, lq441⟩ := RArg.open hdq44
    refine qg s hR rfl (y_ldp1 s rfl hlq44 hmq44 (hcq44 0 _ rfl) underlying9 rfl) fun a s => ?_
    refine qg s hR rfl (y_boxField (o' := 2) s rfl underlying43 rfl rfl rfl) fun a s => ?_
    refine qg s hR rfl (y_loadBox1 (kk := 1000) s rfl rfl rfl underlying41 rfl) fun a s => ?_
    refine qg s hR rfl (y_move s rfl) fun a s => ?_
    refine qg s hR rfl (y_sub s rfl rfl (in64.2 (by omega))) fun a s => ?_
    obtain ⟨p45, hep45, hpp45⟩ := SlR.elemX (s.ft 101 rfl) (ix_some hx41).1
    refine qg s hR rfl (y_elem (sz := 2) (i := ((((i_9 : Nat) : Int) - 1).toNat)) s rfl rfl underlying41 rfl hep45 (ix_some hx41).2.1 (lt_of_get (ix_some hx41).1)) fun a s => ?_
    refine qg s hR rfl (y_ptrField (o' := 0) s rfl underlying45 rfl rfl rfl) fun a s => ?_
    obtain ⟨hlq46, hmq46, csq46, hdq46, hcq46⟩ := hpp45
    obtain ⟨rfl, lq461⟩ := RArg.open hdq46
    refine qg s hR rfl (y_ldp1 s rfl hlq46 hmq46 (hcq46 0 _ rfl) underlying9 rfl) fun a s => ?_
    refine qg s hR rfl (y_sleq s rfl rfl) fun a s => ?_
    refine qt s hR rfl (y_pick_t s rfl rfl) fun a s => ?_
    clear hR hZ
    apply pN
    exact ⟨((Op.bytesLess x38.Role x41.Role) || (x38.Role == x41.Role)), hg, (s.sb rfl rfl rfl)⟩
   have hs36e := decide_eq_false hs36
   replace hg := br_f hg hs36
   refine d_plan s [] [(0, some 0), (1, some 0), (2, some 0), (3, some 0), (4, some 0), (5, some 0), (6, some 0), (7, some 0), (8, some 0), (9, some 0), (10, some 0), (11, some 0), (12, some 0), (13, some 0), (14, some 0), (15, some 0), (16, some 0), (17, some 0)] rfl (by kernel_rfl) (by kernel_rfl) rfl ?_; clear s; intro wr hZ s; have hR := s.wd
   refine qt s hR rfl (y_move s rfl) fun a s => ?_
   refine qt s hR rfl (yl_b (y_gtrN (i := i_9) (j := 0) s rfl rfl) hs36e) fun a s => ?_
   refine qt s hR rfl (y_move s rfl) fun a s => ?_
   refine q_pass s hR rfl rfl ⟨_, _, _, rfl, rfl, rfl, rfl⟩ rfl fun a s => ?_
   refine q_pass s hR rfl rfl ⟨_, _, _, rfl, rfl, rfl, rfl⟩ rfl fun a s => ?_
   refine q_pass s hR rfl rfl ⟨_, _, _, rfl, rfl, rfl, rfl⟩ rfl fun a s => ?_
   refine q_pass s hR rfl rfl ⟨_, _, _, rfl, rfl, rfl, rfl⟩ rfl fun a s => ?_
   refine q_pass s hR rfl rfl ⟨_, _, _, rfl, rfl, rfl, rfl⟩ rfl fun a s => ?_
   refine q_pass s hR rfl rfl ⟨_, _, _, rfl, rfl, rfl, rfl⟩ rfl fun a s => ?_
   refine q_pass s hR rfl rfl ⟨_, _, _, rfl, rfl, rfl, rfl⟩ rfl fun a s => ?_
   refine q_pass s hR rfl rfl ⟨_, _, _, rfl, rfl, rfl, rfl⟩ rfl fun a s => ?_
   refine q_pass s hR rfl rfl ⟨_, _, _, rfl, rfl, rfl, rfl⟩ rfl fun a s => ?_
   refine q_pass s hR rfl rfl ⟨_, _, _, rfl, rfl, rfl, rfl⟩ rfl fun a s => ?_
   refine q_pass s hR rfl rfl ⟨_, _, _, rfl, rfl, rfl, rfl⟩ rfl fun a s => ?_
   refine q_pass s hR rfl rfl ⟨_, _, _, rfl, rfl, rfl, rfl⟩ rfl fun a s => ?_
   refine q_pass s hR rfl rfl ⟨_, _, _, rfl, rfl, rfl, rfl⟩ rfl fun a s => ?_
   refine q_pass s hR rfl rfl ⟨_, _, _, rfl, rfl, rfl, rfl⟩ rfl fun a s => ?_
   refine qt s hR rfl (y_pick_f s rfl rfl) fun a s => ?_
   clear hR hZ
   apply pN
   exact ⟨(false), hg, (s.sb rfl rfl rfl)⟩
  clear s a; rintro a w ⟨t_35, hg, s⟩
  subst hk34
  refine c_cond s rfl (fun hc47 => ?_) (fun hc47 => ?_)
  ·replace hg := br_t hg hc47
   apply wR
   refine asg s rfl rfl fun a s => ?_
   apply wN
   apply wp_ret
   refine p_inR ?_
   refine p_thenR ?_
   refine p_thenR ?_
   refine p_inR ?_
   refine p_thenR ?_
   obtain rfl := Option.some.inj hg
   refine fin1 (fn := Tryz.f63) s rfl (r_tmp s rfl) ?_
   exact rfl
  replace hg := br_n hg hc47
  apply wp_skip
  refine p_inN ?_
  apply pN
  apply wL
  refine mv s rfl rfl fun a s => ?_
  refine qq s rfl (y_addN (i := i_9) (j := 1) s rfl rfl (in64.2 (by omega))) fun a s => ?_
  refine asg s rfl rfl fun a s => ?_
  apply wN
  exact ⟨m1, Nat.lt_succ_self _, ⟨(i_9 + 1), hg, (s.sb rfl rfl rfl)⟩⟩
 replace hg := br_f hg hc10
 apply wp_exit
 refine p_then ?_
 refine p_then ?_
 refine p_in ?_
 apply pN
 apply wR
 refine asg s rfl rfl fun a s => ?_
 apply wN
 apply wp_ret
 obtain rfl := Option.some.inj hg
 refine fin1 (fn := Tryz.f63) s rfl (r_tmp s rfl) ?_
 exact rfl
set_option maxHeartbeats 400000 in
theorem c_r39_Occurrences (n : Nat) (M : Bs) (w0 : World) (hM : ∀ b, M b → b < w0.heap.size) (t_ : MRS) (Ap03 : Option Addr) (cp03 : Nat) (Ap04 : Option Addr) (cp04 : Nat) (Ap05 : Option Addr) (cp05 : Nat) (hp03 : SlR Rep.str M w0 Ap03 (t_.Vars).length cp03 (t_.Vars)) (hp04 : SlR REP M w0 Ap04 (t_.Rels).length cp04 (t_.Rels)) (hp05 : SlR RQeq M w0 Ap05 (t_.Cons).length cp05 (t_.Cons)) (r : (List Int)) (hg : r39_Occurrences n t_ = some r) :
    Calls Tryz.prog 64 [.agg #[.int .i64 (t_.Top), .int .i64 (t_.Index), .slice (Ap03) ((t_.Vars).length) (cp03), .slice (Ap04) ((t_.Rels).length) (cp04), .slice (Ap05) ((t_.Cons).length) (cp05)]].toArray w0 (Ret noB w0 fun v w => ∃ (Aa1 : Option Addr), ∃ (ca1 : Nat), v = .slice (Aa1) ((r).length) (ca1) ∧ (SlR (Rep.num .i64) M w Aa1 (r).length ca1 (r))) := by
 unfold r39_Occurrences at hg
 refine enter M noB func64 rfl rfl hM ?_
 intro a s
 replace s := s.es 101 hp03
 replace s := s.es 102 hp04
 replace s := s.es 103 hp05
 apply wR
 refine l_seq rfl (l_box (zs := [vI (t_.Top), vI (t_.Index), sl Ap03 (t_.Vars) cp03, sl Ap04 (t_.Rels) cp04, sl Ap05 (t_.Cons) cp05]) s 1000 rfl rfl rfl rfl fun b2 a w hb hK s => ?_)
 refine asg s rfl rfl fun a s => ?_
 apply wN
 apply wR
 refine qq s rfl (y_boxField (o' := 0) s rfl underlying26 rfl rfl rfl) fun a s => ?_
 refine qq s rfl (y_loadBox1 (kk := 1000) s rfl rfl rfl underlying3 rfl) fun a s => ?_
 refine qq s rfl (y_boxField (o' := 1) s rfl underlying26 rfl rfl rfl) fun a s => ?_
 refine qq s rfl (y_loadBox1 (kk := 1000) s rfl rfl rfl underlying3 rfl) fun a s => ?_
 refine l_seq rfl (l_buildDense (sz := 1) s 1104 rfl rfl rfl underlying30 rfl rfl rfl rfl rfl rfl rfl fun b4 a w hbb4 hK s => ?_)
 clear hbb4
 refine asg s rfl rfl fun a s => ?_
 apply wN
 apply wQ
 apply wR
 refine asg s rfl rfl fun a s => ?_
 apply wN
 obtain ⟨k5, hg, hk5⟩ := jn_some hg
 refine c_post (fun a w => ∃ (t_6 : (List Int)) (A7 : Option Addr) (c8 : Nat) (cs9 : List Value), k5 t_6 = some r ∧ St (⟨Tryz.f64.ntmps, M, noB, w0⟩ : Ctx) [(1, vP b2 0), (3, sl A7 (t_6) c8)] [(1000, Ob.box b2 [vI (t_.Top), vI (t_.Index), sl Ap03 (t_.Vars) cp03, sl Ap04 (t_.Rels) cp04, sl Ap05 (t_.Cons) cp05] 26), (700104, Ob.row (A7) ((t_6).length) (c8) 3 1 (cs9))] [(101, slF Rep.str (Ap03) ((t_.Vars).length) (cp03) (t_.Vars)), (102, slF REP (Ap04) ((t_.Rels).length) (cp04) (t_.Rels)), (103, slF RQeq (Ap05) ((t_.Cons).length) (cp05) (t_.Cons)), (105, rdF (Rep.num .i64) (cs9) (t_6))] a w) ?_ ?_
 ·apply wp_block
  replace s := s.add 108 (rdF (Rep.num .i64) (cellsOfL [vI (t_.Top), vI (t_.Index)]) ([t_.Top, t_.Index])) (RdAll.cons (by exact rfl) (RdAll.cons (by exact rfl) (RdAll.nil _ _ _)))
  replace s := s.al 107 108 rfl
  replace s := s.pk [(1000, 1000), (700106, 1104)] (by decide)
  refine c_loop (σ := Nat) (fun m1 a w => ∃ (t_10 : (List Int)) (t_14 : Nat) (A11 : Option Addr) (c12 : Nat) (cs13 : List Value), r39_Occurrences_L0 n t_ k5 m1 t_10 t_14 = some r ∧ St (⟨Tryz.f64.ntmps, M, noB, w0⟩ : Ctx) [(1, vP b2 0), (3, sl A11 (t_10) c12), (4, vI (((t_14 : Nat) : Int)))] [(1000, Ob.box b2 [vI (t_.Top), vI (t_.Index), sl Ap03 (t_.Vars) cp03, sl Ap04 (t_.Rels) cp04, sl Ap05 (t_.Cons) cp05] 26), (700106, Ob.row (A11) ((t_10).length) (c12) 3 1 (cs13))] [(101, slF Rep.str (Ap03) ((t_.Vars).length) (cp03) (t_.Vars)), (102, slF REP (Ap04) ((t_.Rels).length) (cp04) (t_.Rels)), (103, slF RQeq (Ap05) ((t_.Cons).length) (cp05) (t_.Cons)), (107, rdF (Rep.num .i64) (cs13) (t_10))] a w) (fun m1 => m1) n ⟨([t_.Top, t_.Index]), (0), (some ⟨b4, 0, none⟩), (2), (cellsOfL [vI (t_.Top), vI (t_.Index)]), hg, (s.sb rfl rfl rfl)⟩ ?_
  clear s a; rintro m1 a w ⟨t_10, t_14, A11, c12, cs13, hg, s⟩
  rcases m1 with _ | m1
  ·rw [r39_Occurrences_L0] at hg; cases hg
  rw [r39_Occurrences_L0] at hg
  apply wQ
  apply wR
  refine mv s rfl rfl fun a s => ?_
  refine qq s rfl (y_boxField (o' := 3) s rfl underlying26 rfl rfl rfl) fun a s => ?_
  refine qq s rfl (y_loadBox1 (kk := 1000) s rfl rfl rfl underlying23 rfl) fun a s => ?_
  refine qq s rfl (y_lenSlice s rfl underlying23) fun a s => ?_
  refine qq s rfl (y_lssN (i := t_14) (j := ((t_.Rels).length)) s rfl rfl) fun a s => ?_
  apply wN
  refine c_dec s rfl (fun hc15 => ?_) (fun hc15 => ?_)
  ·replace hg := br_t hg hc15
   have hmx16 := SlR.mx (s.ft 102 rfl)
   apply wp_skip
   apply pN
   apply wQ
   obtain ⟨k17, hg, hk17⟩ := jn_some hg
   refine c_post (fun a w => ∃ (t_18 : (List Int)) (A19 : Option Addr) (c20 : Nat) (cs21 : List Value), k17 t_18 = some r ∧ St (⟨Tryz.f64.ntmps, M, noB, w0⟩ : Ctx) [(1, vP b2 0), (3, sl A19 (t_18) c20), (4, vI (((t_14 : Nat) : Int)))] [(1000, Ob.box b2 [vI (t_.Top), vI (t_.Index), sl Ap03 (t_.Vars) cp03, sl Ap04 (t_.Rels) cp04, sl Ap05 (t_.Cons) cp05] 26), (700109, Ob.row (A19) ((t_18).length) (c20) 3 1 (cs21))] [(101, slF Rep.str (Ap03) ((t_.Vars).length) (cp03) (t_.Vars)), (102, slF REP (Ap04) ((t_.Rels).length) (cp04) (t_.Rels)), (103, slF RQeq (Ap05) ((t_.Cons).length) (cp05) (t_.Cons)), (110, rdF (Rep.num .i64) (cs21) (t_18))] a w) ?_ ?_
   ·apply wp_block
    apply wQ
    obtain ⟨x23, hx23, hg⟩ := bind_some hg
    obtain ⟨hk26, hg⟩ := chk_some hg
    apply wL
    refine mv s rfl rfl fun a s => ?_
    refine qq s rfl (y_boxField (o' := 3) s rfl underlying26 rfl rfl rfl) fun a s => ?_
    refine qq s rfl (y_loadBox1 (kk := 1000) s rfl rfl rfl underlying23 rfl) fun a s => ?_
    refine mv s rfl rfl fun a s => ?_
    obtain ⟨p29, hep29, hpp29⟩ := SlR.elemX (s.ft 102 rfl) hx23
    refine qq s rfl (y_elem (sz := 3) (i := t_14) s rfl rfl underlying23 rfl hep29 rfl (lt_of_get hx23)) fun a s => ?_
    refine qq s rfl (y_ptrField (o' := 1) s rfl underlying43 rfl rfl rfl) fun a s => ?_
    obtain ⟨hlq30, hmq30, csq30, hdq30, hcq30⟩ := hpp29
    obtain ⟨Aq303, cq303, rfl, lq301, hq303⟩ := REP.open hdq30
    replace s := s.ns 114 hq303
    refine qq s rfl (y_ldp1 s rfl hlq30 hmq30 (hcq30 1 _ rfl) underlying3 rfl) fun a s => ?_
    refine l_seq rfl (l_buildDense (sz := 1) s 1507 rfl rfl rfl underlying30 rfl rfl rfl rfl rfl rfl rfl fun b31 a w hbb31 hK s => ?_)
    clear hbb31
    replace s := s.add 115 (rdF (Rep.num .i64) (cellsOfL [vI (x23.Label)]) ([x23.Label])) (RdAll.cons (by exact rfl) (RdAll.nil _ _ _))
    have hs33 := row_src (s.wd.holds 1507 _ rfl) (RdAll.one (s.ft 115 rfl))
    refine l_seq rfl (l_append (sz := 1) (by_ := 8) (N := (t_10 ++ [x23.Label]).length) (ys := cs13 ++ (cellsOfL [vI (x23.Label)])) s 700106 rfl rfl rfl underlying30 rfl rfl rfl rfl rfl hs33 (by simp) rfl (by have hr := hk26; clear hg; first | omega | (simp only [List.length_append, List.length_cons, List.length_nil] at hr ⊢; omega) | (simp at hr ⊢; omega)) (by have hr := hk26; clear hg; first | omega | (simp only [List.length_append, List.length_cons, List.length_nil] at hr ⊢; omega) | (simp at hr ⊢; omega)) rfl fun Aq32 cq32 a w hA hK s => ?_)
    replace s := s.add 116 (rdF (Rep.num .i64) (cs13 ++ (cellsOfL [vI (x23.Label)])) (t_10 ++ [x23.Label])) (RdAll.append (s.ft 107 rfl) (s.ft 115 rfl))
    refine asg s rfl rfl fun a s => ?_
    apply wN
    apply wR
    refine asg s rfl rfl fun a s => ?_
    apply wN
    apply wp_block
    replace s := s.al 118 116 rfl
    replace s := s.pk [(1000, 1000), (1507, 1507), (700117, 700106)] (by decide)
    refine c_loop (σ := Nat) (fun m2 a w => ∃ (t_34 : (List Int)) (t_38 : Nat) (A35 : Option Addr) (c36 : Nat) (cs37 : List Value), r39_Occurrences_L1 n k17 x23 m2 t_34 t_38 = some r ∧ St (⟨Tryz.f64.ntmps, M, noB, w0⟩ : Ctx) [(1, vP b2 0), (3, sl A35 (t_34) c36), (4, vI (((t_14 : Nat) : Int))), (5, vI (((t_38 : Nat) : Int)))] [(1000, Ob.box b2 [vI (t_.Top), vI (t_.Index), sl Ap03 (t_.Vars) cp03, sl Ap04 (t_.Rels) cp04, sl Ap05 (t_.Cons) cp05] 26), (700117, Ob.row (A35) ((t_34).length) (c36) 3 1 (cs37))] [(101, slF Rep.str (Ap03) ((t_.Vars).length) (cp03) (t_.Vars)), (102, slF REP (Ap04) ((t_.Rels).length) (cp04) (t_.Rels)), (103, slF RQeq (Ap05) ((t_.Cons).length) (cp05) (t_.Cons)), (118, rdF (Rep.num .i64) (cs37) (t_34))] a w) (fun m2 => m2) n ⟨(t_10 ++ [x23.Label]), (0), (Aq32), (cq32), (cs13 ++ (cellsOfL [vI (x23.Label)])), hg, (s.sb rfl rfl rfl)⟩ ?_
    clear s a; rintro m2 a w ⟨t_34, t_38, A35, c36, cs37, hg, s⟩
    rcases m2 with _ | m2
    ·rw [r39_Occurrences_L1] at hg; cases hg
    rw [r39_Occurrences_L1] at hg
    apply wQ
    apply wR
    refine mv s rfl rfl fun a s => ?_
    refine qq s rfl (y_boxField (o' := 3) s rfl underlying26 rfl rfl rfl) fun a s => ?_
    refine qq s rfl (y_loadBox1 (kk := 1000) s rfl rfl rfl underlying23 rfl) fun a s => ?_
    refine mv s rfl rfl fun a s => ?_
    obtain ⟨p41, hep41, hpp41⟩ := SlR.elemX (s.ft 102 rfl) hx23
    refine qq s rfl (y_elem (sz := 3) (i := t_14) s rfl rfl underlying23 rfl hep41 rfl (lt_of_get hx23)) fun a s => ?_
    refine qq s rfl (y_ptrField (o' := 2) s rfl underlying43 rfl rfl rfl) fun a s => ?_
    obtain ⟨hlq42, hmq42, csq42, hdq42, hcq42⟩ := hpp41
    obtain ⟨Aq423, cq423, rfl, lq421, hq423⟩ := REP.open hdq42
    replace s := s.ns 120 hq423
    refine qq s rfl (y_ldp1 s rfl hlq42 hmq42 (hcq42 2 _ rfl) underlying41 rfl) fun a s => ?_
    refine qq s rfl (y_lenSlice s rfl underlying41) fun a s => ?_
    refine qq s rfl (y_lssN (i := t_38) (j := ((x23.Args).length)) s rfl rfl) fun a s => ?_
    apply wN
    refine c_dec s rfl (fun hc43 => ?_) (fun hc43 => ?_)
    ·replace hg := br_t hg hc43
     have hmx44 := SlR.mx (s.ft 120 rfl)
     apply wp_skip
     apply pN
     apply wQ
     apply wp_block
     obtain ⟨x48, hx48, hg⟩ := bind_some hg
     obtain ⟨hk51, hg⟩ := chk_some hg
     apply wL
     refine mv s rfl rfl fun a s => ?_
     refine qq s rfl (y_boxField (o' := 3) s rfl underlying26 rfl rfl rfl) fun a s => ?_
     refine qq s rfl (y_loadBox1 (kk := 1000) s rfl rfl rfl underlying23 rfl) fun a s => ?_
     refine mv s rfl rfl fun a s => ?_
     obtain ⟨p54, hep54, hpp54⟩ := SlR.elemX (s.ft 102 rfl) hx23
     refine qq s rfl (y_elem (sz := 3) (i := t_14) s rfl rfl underlying23 rfl hep54 rfl (lt_of_get hx23)) fun a s => ?_
     refine qq s rfl (y_ptrField (o' := 2) s rfl underlying43 rfl rfl rfl) fun a s => ?_
     obtain ⟨hlq55, hmq55, csq55, hdq55, hcq55⟩ := hpp54
     obtain ⟨Aq553, cq553, rfl, lq551, hq553⟩ := REP.open hdq55
     replace s := s.ns 124 hq553
     refine qq s rfl (y_ldp1 s rfl hlq55 hmq55 (hcq55 2 _ rfl) underlying41 rfl) fun a s => ?_
     refine mv s rfl rfl fun a s => ?_
     obtain ⟨p56, hep56, hpp56⟩ := SlR.elemX (s.ft 124 rfl) hx48
     refine qq s rfl (y_elem (sz := 2) (i := t_38) s rfl rfl underlying41 rfl hep56 rfl (lt_of_get hx48)) fun a s => ?_
     refine qq s rfl (y_ptrField (o' := 1) s rfl underlying45 rfl rfl rfl) fun a s => ?_
     obtain ⟨hlq57, hmq57, csq57, hdq57, hcq57⟩ := hpp56
     obtain ⟨rfl, lq571⟩ := RArg.open hdq57
     refine qq s rfl (y_ldp1 s rfl hlq57 hmq57 (hcq57 1 _ rfl) underlying3 rfl) fun a s => ?_
     refine l_seq rfl (l_buildDense (sz := 1) s 1911 rfl rfl rfl underlying30 rfl rfl rfl rfl rfl rfl rfl fun b58 a w hbb58 hK s => ?_)
     clear hbb58
     replace s := s.add 125 (rdF (Rep.num .i64) (cellsOfL [vI (x48.Var)]) ([x48.Var])) (RdAll.cons (by exact rfl) (RdAll.nil _ _ _))
     have hs60 := row_src (s.wd.holds 1911 _ rfl) (RdAll.one (s.ft 125 rfl))
     refine l_seq rfl (l_append (sz := 1) (by_ := 8) (N := (t_34 ++ [x48.Var]).length) (ys := cs37 ++ (cellsOfL [vI (x48.Var)])) s 700117 rfl rfl rfl underlying30 rfl rfl rfl rfl rfl hs60 (by simp) rfl (by have hr := hk51; clear hg; first | omega | (simp only [List.length_append, List.length_cons, List.length_nil] at hr ⊢; omega) | (simp at hr ⊢; omega)) (by have hr := hk51; clear hg; first | omega | (simp only [List.length_append, List.length_cons, List.length_nil] at hr ⊢; omega) | (simp at hr ⊢; omega)) rfl fun Aq59 cq59 a w hA hK s => ?_)
     replace s := s.add 126 (rdF (Rep.num .i64) (cs37 ++ (cellsOfL [vI (x48.Var)])) (t_34 ++ [x48.Var])) (RdAll.append (s.ft 118 rfl) (s.ft 125 rfl))
     refine asg s rfl rfl fun a s => ?_
     apply wO
     refine p_inN ?_
     apply pN
     apply wL
     refine mv s rfl rfl fun a s => ?_
     refine qq s rfl (y_addN (i := t_38) (j := 1) s rfl rfl (in64.2 (by omega))) fun a s => ?_
     refine asg s rfl rfl fun a s => ?_
     apply wN
     replace s := s.al 118 126 rfl
     exact ⟨m2, Nat.lt_succ_self _, ⟨(t_34 ++ [x48.Var]), (t_38 + 1), (Aq59), (cq59), (cs37 ++ (cellsOfL [vI (x48.Var)])), hg, (s.sb rfl rfl rfl)⟩⟩
    replace hg := br_f hg hc43
    apply wp_exit
    refine p_then ?_
    refine p_then ?_
    refine p_in ?_
    refine p_inN ?_
    apply pN
    replace s := s.al 110 118 rfl
    replace s := s.pk [(1000, 1000), (700109, 700117)] (by decide)
    exact ⟨(t_34), (A35), (c36), (cs37), hg, (s.sb rfl rfl rfl)⟩
   clear s a; rintro a w ⟨t_18, A19, c20, cs21, hg, s⟩
   subst hk17
   apply wL
   refine mv s rfl rfl fun a s => ?_
   refine qq s rfl (y_addN (i := t_14) (j := 1) s rfl rfl (in64.2 (by omega))) fun a s => ?_
   refine asg s rfl rfl fun a s => ?_
   apply wN
   replace s := s.al 107 110 rfl
   replace s := s.pk [(1000, 1000), (700106, 700109)] (by decide)
   exact ⟨m1, Nat.lt_succ_self _, ⟨(t_18), (t_14 + 1), (A19), (c20), (cs21), hg, (s.sb rfl rfl rfl)⟩⟩
  replace hg := br_f hg hc15
  apply wp_exit
  refine p_then ?_
  refine p_then ?_
  refine p_in ?_
  apply pN
  replace s := s.al 105 107 rfl
  replace s := s.pk [(1000, 1000), (700104, 700106)] (by decide)
  exact ⟨(t_10), (A11), (c12), (cs13), hg, (s.sb rfl rfl rfl)⟩
 clear s a; rintro a w ⟨t_6, A7, c8, cs9, hg, s⟩
 subst hk5
 apply wQ
 apply wR
 refine asg s rfl rfl fun a s => ?_
 apply wN
 apply wp_block
 replace s := s.al 128 105 rfl
 replace s := s.pk [(1000, 1000), (700127, 700104)] (by decide)
 refine c_loop (σ := Nat) (fun m3 a w => ∃ (t_61 : (List Int)) (t_65 : Nat) (A62 : Option Addr) (c63 : Nat) (cs64 : List Value), r39_Occurrences_L2 n t_ m3 t_61 t_65 = some r ∧ St (⟨Tryz.f64.ntmps, M, noB, w0⟩ : Ctx) [(1, vP b2 0), (3, sl A62 (t_61) c63), (6, vI (((t_65 : Nat) : Int)))] [(1000, Ob.box b2 [vI (t_.Top), vI (t_.Index), sl Ap03 (t_.Vars) cp03, sl Ap04 (t_.Rels) cp04, sl Ap05 (t_.Cons) cp05] 26), (700127, Ob.row (A62) ((t_61).length) (c63) 3 1 (cs64))] [(101, slF Rep.str (Ap03) ((t_.Vars).length) (cp03) (t_.Vars)), (102, slF REP (Ap04) ((t_.Rels).length) (cp04) (t_.Rels)), (103, slF RQeq (Ap05) ((t_.Cons).length) (cp05) (t_.Cons)), (128, rdF (Rep.num .i64) (cs64) (t_61))] a w) (fun m3 => m3) n ⟨(t_6), (0), (A7), (c8), (cs9), hg, (s.sb rfl rfl rfl)⟩ ?_
 clear s a; rintro m3 a w ⟨t_61, t_65, A62, c63, cs64, hg, s⟩
 rcases m3 with _ | m3
 ·rw [r39_Occurrences_L2] at hg; cases hg
 rw [r39_Occurrences_L2] at hg
 apply wQ
 apply wR
 refine mv s rfl rfl fun a s => ?_
 refine qq s rfl (y_boxField (o' := 4) s rfl underlying26 rfl rfl rfl) fun a s => ?_
 refine qq s rfl (y_loadBox1 (kk := 1000) s rfl rfl rfl underlying24 rfl) fun a s => ?_
 refine qq s rfl (y_lenSlice s rfl underlying24) fun a s => ?_
 refine qq s rfl (y_lssN (i := t_65) (j := ((t_.Cons).length)) s rfl rfl) fun a s => ?_
 apply wN
 refine c_dec s rfl (fun hc66 => ?_) (fun hc66 => ?_)
 ·replace hg := br_t hg hc66
  have hmx67 := SlR.mx (s.ft 103 rfl)
  apply wp_skip
  apply pN
  apply wQ
  apply wp_block
  apply wQ
  obtain ⟨x69, hx69, hg⟩ := bind_some hg
  obtain ⟨hk72, hg⟩ := chk_some hg
  apply wL
  refine mv s rfl rfl fun a s => ?_
  refine qq s rfl (y_boxField (o' := 4) s rfl underlying26 rfl rfl rfl) fun a s => ?_
  refine qq s rfl (y_loadBox1 (kk := 1000) s rfl rfl rfl underlying24 rfl) fun a s => ?_
  refine mv s rfl rfl fun a s => ?_
  obtain ⟨p75, hep75, hpp75⟩ := SlR.elemX (s.ft 103 rfl) hx69
  refine qq s rfl (y_elem (sz := 2) (i := t_65) s rfl rfl underlying24 rfl hep75 rfl (lt_of_get hx69)) fun a s => ?_
  refine qq s rfl (y_ptrField (o' := 0) s rfl underlying48 rfl rfl rfl) fun a s => ?_
  obtain ⟨hlq76, hmq76, csq76, hdq76, hcq76⟩ := hpp75
  obtain rfl := RQeq.open hdq76
  refine qq s rfl (y_ldp1 s rfl hlq76 hmq76 (hcq76 0 _ rfl) underlying3 rfl) fun a s => ?_
  refine l_seq rfl (l_buildDense (sz := 1) s 2307 rfl rfl rfl underlying30 rfl rfl rfl rfl rfl rfl rfl fun b77 a w hbb77 hK s => ?_)
  clear hbb77
  replace s := s.add 131 (rdF (Rep.num .i64) (cellsOfL [vI (x69.High)]) ([x69.High])) (RdAll.cons (by exact rfl) (RdAll.nil _ _ _))
  have hs79 := row_src (s.wd.holds 2307 _ rfl) (RdAll.one (s.ft 131 rfl))
  refine l_seq rfl (l_append (sz := 1) (by_ := 8) (N := (t_61 ++ [x69.High]).length) (ys := cs64 ++ (cellsOfL [vI (x69.High)])) s 700127 rfl rfl rfl underlying30 rfl rfl rfl rfl rfl hs79 (by simp) rfl (by have hr := hk72; clear hg; first | omega | (simp only [List.length_append, List.length_cons, List.length_nil] at hr ⊢; omega) | (simp at hr ⊢; omega)) (by have hr := hk72; clear hg; first | omega | (simp only [List.length_append, List.length_cons, List.length_nil] at hr ⊢; omega) | (simp at hr ⊢; omega)) rfl fun Aq78 cq78 a w hA hK s => ?_)
  replace s := s.add 132 (rdF (Rep.num .i64) (cs64 ++ (cellsOfL [vI (x69.High)])) (t_61 ++ [x69.High])) (RdAll.append (s.ft 128 rfl) (s.ft 131 rfl))
  refine asg s rfl rfl fun a s => ?_
  apply wN
  obtain ⟨hk83, hg⟩ := chk_some hg
  apply wL
  refine mv s rfl rfl fun a s => ?_
  refine qq s rfl (y_boxField (o' := 4) s rfl underlying26 rfl rfl rfl) fun a s => ?_
  refine qq s rfl (y_loadBox1 (kk := 1000) s rfl rfl rfl underlying24 rfl) fun a s => ?_
  refine mv s rfl rfl fun a s => ?_
  obtain ⟨p86, hep86, hpp86⟩ := SlR.elemX (s.ft 103 rfl) hx69
  refine qq s rfl (y_elem (sz := 2) (i := t_65) s rfl rfl underlying24 rfl hep86 rfl (lt_of_get hx69)) fun a s => ?_
  refine qq s rfl (y_ptrField (o' := 1) s rfl underlying48 rfl rfl rfl) fun a s => ?_
  obtain ⟨hlq87, hmq87, csq87, hdq87, hcq87⟩ := hpp86
  obtain rfl := RQeq.open hdq87
  refine qq s rfl (y_ldp1 s rfl hlq87 hmq87 (hcq87 1 _ rfl) underlying3 rfl) fun a s => ?_
  refine l_seq rfl (l_buildDense (sz := 1) s 2407 rfl rfl rfl underlying30 rfl rfl rfl rfl rfl rfl rfl fun b88 a w hbb88 hK s => ?_)
  clear hbb88
  replace s := s.add 135 (rdF (Rep.num .i64) (cellsOfL [vI (x69.Low)]) ([x69.Low])) (RdAll.cons (by exact rfl) (RdAll.nil _ _ _))
  have hs90 := row_src (s.wd.holds 2407 _ rfl) (RdAll.one (s.ft 135 rfl))
  refine l_seq rfl (l_append (sz := 1) (by_ := 8) (N := ((t_61 ++ [x69.High]) ++ [x69.Low]).length) (ys := (cs64 ++ (cellsOfL [vI (x69.High)])) ++ (cellsOfL [vI (x69.Low)])) s 700127 rfl rfl rfl underlying30 rfl rfl rfl rfl rfl hs90 (by simp) rfl (by have hr := hk83; clear hg; first | omega | (simp only [List.length_append, List.length_cons, List.length_nil] at hr ⊢; omega) | (simp at hr ⊢; omega)) (by have hr := hk83; clear hg; first | omega | (simp only [List.length_append, List.length_cons, List.length_nil] at hr ⊢; omega) | (simp at hr ⊢; omega)) rfl fun Aq89 cq89 a w hA hK s => ?_)
  replace s := s.add 136 (rdF (Rep.num .i64) ((cs64 ++ (cellsOfL [vI (x69.High)])) ++ (cellsOfL [vI (x69.Low)])) ((t_61 ++ [x69.High]) ++ [x69.Low])) (RdAll.append (s.ft 132 rfl) (s.ft 135 rfl))
  refine asg s rfl rfl fun a s => ?_
  apply wO
  refine p_inN ?_
  apply pN
  apply wL
  refine mv s rfl rfl fun a s => ?_
  refine qq s rfl (y_addN (i := t_65) (j := 1) s rfl rfl (in64.2 (by omega))) fun a s => ?_
  refine asg s rfl rfl fun a s => ?_
  apply wN
  replace s := s.add 128 (rdF (Rep.num .i64) ((cs64 ++ (cellsOfL [vI (x69.High)])) ++ (cellsOfL [vI (x69.Low)])) ((t_61 ++ [x69.High]) ++ [x69.Low])) (s.ft 136 rfl)
  exact ⟨m3, Nat.lt_succ_self _, ⟨((t_61 ++ [x69.High]) ++ [x69.Low]), (t_65 + 1), (Aq89), (cq89), ((cs64 ++ (cellsOfL [vI (x69.High)])) ++ (cellsOfL [vI (x69.Low)])), hg, (s.sb rfl rfl rfl)⟩⟩
 replace hg := br_f hg hc66
 apply wp_exit
 refine p_then ?_
 refine p_then ?_
 refine p_in ?_
 apply pN
 apply wR
 refine mv s rfl rfl fun a s => ?_
 refine asg s rfl rfl fun a s => ?_
 apply wN
 apply wp_ret
 obtain rfl := Option.some.inj hg
 refine fin1 (fn := Tryz.f64) s rfl (r_tmp s rfl) ?_
 exact ⟨(A62), (c63), rfl, (s.rowOut (R := (Rep.num .i64)) (kk := 700127) rfl rfl (s.ft 128 rfl))⟩
set_option maxHeartbeats 400000 in
theorem c_r39_handles (n : Nat) (M : Bs) (w0 : World) (hM : ∀ b, M b → b < w0.heap.size) (m_ : MRS) (Ap03 : Option Addr) (cp03 : Nat) (Ap04 : Option Addr) (cp04 : Nat) (Ap05 : Option Addr) (cp05 : Nat) (hp03 : SlR Rep.str M w0 Ap03 (m_.Vars).length cp03 (m_.Vars)) (hp04 : SlR REP M w0 Ap04 (m_.Rels).length cp04 (m_.Rels)) (hp05 : SlR RQeq M w0 Ap05 (m_.Cons).length cp05 (m_.Cons)) (r : (List Int)) (hg : r39_handles n m_ = some r) :
    Calls Tryz.prog 65 [.agg #[.int .i64 (m_.Top), .int .i64 (m_.Index), .slice (Ap03) ((m_.Vars).length) (cp03), .slice (Ap04) ((m_.Rels).length) (cp04), .slice (Ap05) ((m_.Cons).length) (cp05)]].toArray w0 (Ret noB w0 fun v w => ∃ (Aa1 : Option Addr), ∃ (ca1 : Nat), v = .slice (Aa1) ((r).length) (ca1) ∧ (SlR (Rep.num .i64) M w Aa1 (r).length ca1 (r))) := by
 unfold r39_handles at hg
 refine enter M noB func65 rfl rfl hM ?_
 intro a s
 replace s := s.es 101 hp03
 replace s := s.es 102 hp04
 replace s := s.es 103 hp05
 apply wR
 refine l_seq rfl (l_box (zs := [vI (m_.Top), vI (m_.Index), sl Ap03 (m_.Vars) cp03, sl Ap04 (m_.Rels) cp04, sl Ap05 (m_.Cons) cp05]) s 1000 rfl rfl rfl rfl fun b2 a w hb hK s => ?_)
 refine asg s rfl rfl fun a s => ?_
 apply wN
 apply wR
 refine qq s rfl (y_boxField (o' := 0) s rfl underlying26 rfl rfl rfl) fun a s => ?_
 refine qq s rfl (y_loadBox1 (kk := 1000) s rfl rfl rfl underlying3 rfl) fun a s => ?_
 refine l_seq rfl (l_buildDense (sz := 1) s 1102 rfl rfl rfl underlying30 rfl rfl rfl rfl rfl rfl rfl fun b4 a w hbb4 hK s => ?_)
 clear hbb4
 refine asg s rfl rfl fun a s => ?_
 apply wN
 apply wQ
 apply wR
 refine asg s rfl rfl fun a s => ?_
 apply wN
 obtain ⟨k5, hg, hk5⟩ := jn_some hg
 refine c_post (fun a w => ∃ (out_6 : (List Int)) (A7 : Option Addr) (c8 : Nat) (cs9 : List Value), k5 out_6 = some r ∧ St (⟨Tryz.f65.ntmps, M, noB, w0⟩ : Ctx) [(1, vP b2 0), (3, sl A7 (out_6) c8)] [(1000, Ob.box b2 [vI (m_.Top), vI (m_.Index), sl Ap03 (m_.Vars) cp03, sl Ap04 (m_.Rels) cp04, sl Ap05 (m_.Cons) cp05] 26), (700104, Ob.row (A7) ((out_6).length) (c8) 3 1 (cs9))] [(101, slF Rep.str (Ap03) ((m_.Vars).length) (cp03) (m_.Vars)), (102, slF REP (Ap04) ((m_.Rels).length) (cp04) (m_.Rels)), (103, slF RQeq (Ap05) ((m_.Cons).length) (cp05) (m_.Cons)), (105, rdF (Rep.num .i64) (cs9) (out_6))] a w) ?_ ?_
 ·apply wp_block
  replace s := s.add 108 (rdF (Rep.num .i64) (cellsOfL [vI (m_.Top)]) ([m_.Top])) (RdAll.cons (by exact rfl) (RdAll.nil _ _ _))
  replace s := s.al 107 108 rfl
  replace s := s.pk [(1000, 1000), (700106, 1102)] (by decide)
  refine c_loop (σ := Nat) (fun m1 a w => ∃ (out_10 : (List Int)) (i_14 : Nat) (A11 : Option Addr) (c12 : Nat) (cs13 : List Value), r39_handles_L0 n m_ k5 m1 out_10 i_14 = some r ∧ St (⟨Tryz.f65.ntmps, M, noB, w0⟩ : Ctx) [(1, vP b2 0), (3, sl A11 (out_10) c12), (4, vI (((i_14 : Nat) : Int)))] [(1000, Ob.box b2 [vI (m_.Top), vI (m_.Index), sl Ap03 (m_.Vars) cp03, sl Ap04 (m_.Rels) cp04, sl Ap05 (m_.Cons) cp05] 26), (700106, Ob.row (A11) ((out_10).length) (c12) 3 1 (cs13))] [(101, slF Rep.str (Ap03) ((m_.Vars).length) (cp03) (m_.Vars)), (102, slF REP (Ap04) ((m_.Rels).length) (cp04) (m_.Rels)), (103, slF RQeq (Ap05) ((m_.Cons).length) (cp05) (m_.Cons)), (107, rdF (Rep.num .i64) (cs13) (out_10))] a w) (fun m1 => m1) n ⟨([m_.Top]), (0), (some ⟨b4, 0, none⟩), (1), (cellsOfL [vI (m_.Top)]), hg, (s.sb rfl rfl rfl)⟩ ?_
  clear s a; rintro m1 a w ⟨out_10, i_14, A11, c12, cs13, hg, s⟩
  rcases m1 with _ | m1
  ·rw [r39_handles_L0] at hg; cases hg
  rw [r39_handles_L0] at hg
  apply wQ
  apply wR
  refine mv s rfl rfl fun a s => ?_
  refine qq s rfl (y_boxField (o' := 3) s rfl underlying26 rfl rfl rfl) fun a s => ?_
  refine qq s rfl (y_loadBox1 (kk := 1000) s rfl rfl rfl underlying23 rfl) fun a s => ?_
  refine qq s rfl (y_lenSlice s rfl underlying23) fun a s => ?_
  refine qq s rfl (y_lssN (i := i_14) (j := ((m_.Rels).length)) s rfl rfl) fun a s => ?_
  apply wN
  refine c_dec s rfl (fun hc15 => ?_) (fun hc15 => ?_)
  ·replace hg := br_t hg hc15
   have hmx16 := SlR.mx (s.ft 102 rfl)
   apply wp_skip
   apply pN
   apply wQ
   apply wp_block
   obtain ⟨x18, hx18, hg⟩ := bind_some hg
   obtain ⟨hk21, hg⟩ := chk_some hg
   apply wL
   refine mv s rfl rfl fun a s => ?_
   refine qq s rfl (y_boxField (o' := 3) s rfl underlying26 rfl rfl rfl) fun a s => ?_
   refine qq s rfl (y_loadBox1 (kk := 1000) s rfl rfl rfl underlying23 rfl) fun a s => ?_
   refine mv s rfl rfl fun a s => ?_
   obtain ⟨p24, hep24, hpp24⟩ := SlR.elemX (s.ft 102 rfl) hx18
   refine qq s rfl (y_elem (sz := 3) (i := i_14) s rfl rfl underlying23 rfl hep24 rfl (lt_of_get hx18)) fun a s => ?_
   refine qq s rfl (y_ptrField (o' := 1) s rfl underlying43 rfl rfl rfl) fun a s => ?_
   obtain ⟨hlq25, hmq25, csq25, hdq25, hcq25⟩ := hpp24
   obtain ⟨Aq253, cq253, rfl, lq251, hq253⟩ := REP.open hdq25
   replace s := s.ns 112 hq253
   refine qq s rfl (y_ldp1 s rfl hlq25 hmq25 (hcq25 1 _ rfl) underlying3 rfl) fun a s => ?_
   refine l_seq rfl (l_buildDense (sz := 1) s 1507 rfl rfl rfl underlying30 rfl rfl rfl rfl rfl rfl rfl fun b26 a w hbb26 hK s => ?_)
   clear hbb26
   replace s := s.add 113 (rdF (Rep.num .i64) (cellsOfL [vI (x18.Label)]) ([x18.Label])) (RdAll.cons (by exact rfl) (RdAll.nil _ _ _))
   have hs28 := row_src (s.wd.holds 1507 _ rfl) (RdAll.one (s.ft 113 rfl))
   refine l_seq rfl (l_append (sz := 1) (by_ := 8) (N := (out_10 ++ [x18.Label]).length) (ys := cs13 ++ (cellsOfL [vI (x18.Label)])) s 700106 rfl rfl rfl underlying30 rfl rfl rfl rfl rfl hs28 (by simp) rfl (by have hr := hk21; clear hg; first | omega | (simp only [List.length_append, List.length_cons, List.length_nil] at hr ⊢; omega) | (simp at hr ⊢; omega)) (by have hr := hk21; clear hg; first | omega | (simp only [List.length_append, List.length_cons, List.length_nil] at hr ⊢; omega) | (simp at hr ⊢; omega)) rfl fun Aq27 cq27 a w hA hK s => ?_)
   replace s := s.add 114 (rdF (Rep.num .i64) (cs13 ++ (cellsOfL [vI (x18.Label)])) (out_10 ++ [x18.Label])) (RdAll.append (s.ft 107 rfl) (s.ft 113 rfl))
   refine asg s rfl rfl fun a s => ?_
   apply wO
   refine p_inN ?_
   apply pN
   apply wL
   refine mv s rfl rfl fun a s => ?_
   refine qq s rfl (y_addN (i := i_14) (j := 1) s rfl rfl (in64.2 (by omega))) fun a s => ?_
   refine asg s rfl rfl fun a s => ?_
   apply wN
   replace s := s.al 107 114 rfl
   exact ⟨m1, Nat.lt_succ_self _, ⟨(out_10 ++ [x18.Label]), (i_14 + 1), (Aq27), (cq27), (cs13 ++ (cellsOfL [vI (x18.Label)])), hg, (s.sb rfl rfl rfl)⟩⟩
  replace hg := br_f hg hc15
  apply wp_exit
  refine p_then ?_
  refine p_then ?_
  refine p_in ?_
  apply pN
  replace s := s.al 105 107 rfl
  replace s := s.pk [(1000, 1000), (700104, 700106)] (by decide)
  exact ⟨(out_10), (A11), (c12), (cs13), hg, (s.sb rfl rfl rfl)⟩
 clear s a; rintro a w ⟨out_6, A7, c8, cs9, hg, s⟩
 subst hk5
 apply wQ
 apply wR
 refine asg s rfl rfl fun a s => ?_
 apply wN
 apply wp_block
 replace s := s.al 116 105 rfl
 replace s := s.pk [(1000, 1000), (700115, 700104)] (by decide)
 refine c_loop (σ := Nat) (fun m2 a w => ∃ (out_29 : (List Int)) (i_33 : Nat) (A30 : Option Addr) (c31 : Nat) (cs32 : List Value), r39_handles_L1 n m_ m2 out_29 i_33 = some r ∧ St (⟨Tryz.f65.ntmps, M, noB, w0⟩ : Ctx) [(1, vP b2 0), (3, sl A30 (out_29) c31), (5, vI (((i_33 : Nat) : Int)))] [(1000, Ob.box b2 [vI (m_.Top), vI (m_.Index), sl Ap03 (m_.Vars) cp03, sl Ap04 (m_.Rels) cp04, sl Ap05 (m_.Cons) cp05] 26), (700115, Ob.row (A30) ((out_29).length) (c31) 3 1 (cs32))] [(101, slF Rep.str (Ap03) ((m_.Vars).length) (cp03) (m_.Vars)), (102, slF REP (Ap04) ((m_.Rels).length) (cp04) (m_.Rels)), (103, slF RQeq (Ap05) ((m_.Cons).length) (cp05) (m_.Cons)), (116, rdF (Rep.num .i64) (cs32) (out_29))] a w) (fun m2 => m2) n ⟨(out_6), (0), (A7), (c8), (cs9), hg, (s.sb rfl rfl rfl)⟩ ?_
 clear s a; rintro m2 a w ⟨out_29, i_33, A30, c31, cs32, hg, s⟩
 rcases m2 with _ | m2
 ·rw [r39_handles_L1] at hg; cases hg
 rw [r39_handles_L1] at hg
 apply wQ
 apply wR
 refine mv s rfl rfl fun a s => ?_
 refine qq s rfl (y_boxField (o' := 4) s rfl underlying26 rfl rfl rfl) fun a s => ?_
 refine qq s rfl (y_loadBox1 (kk := 1000) s rfl rfl rfl underlying24 rfl) fun a s => ?_
 refine qq s rfl (y_lenSlice s rfl underlying24) fun a s => ?_
 refine qq s rfl (y_lssN (i := i_33) (j := ((m_.Cons).length)) s rfl rfl) fun a s => ?_
 apply wN
 refine c_dec s rfl (fun hc34 => ?_) (fun hc34 => ?_)
 ·replace hg := br_t hg hc34
  have hmx35 := SlR.mx (s.ft 103 rfl)
  apply wp_skip
  apply pN
  apply wQ
  apply wp_block
  apply wQ
  obtain ⟨x37, hx37, hg⟩ := bind_some hg
  obtain ⟨hk40, hg⟩ := chk_some hg
  apply wL
  refine mv s rfl rfl fun a s => ?_
  refine qq s rfl (y_boxField (o' := 4) s rfl underlying26 rfl rfl rfl) fun a s => ?_
  refine qq s rfl (y_loadBox1 (kk := 1000) s rfl rfl rfl underlying24 rfl) fun a s => ?_
  refine mv s rfl rfl fun a s => ?_
  obtain ⟨p43, hep43, hpp43⟩ := SlR.elemX (s.ft 103 rfl) hx37
  refine qq s rfl (y_elem (sz := 2) (i := i_33) s rfl rfl underlying24 rfl hep43 rfl (lt_of_get hx37)) fun a s => ?_
  refine qq s rfl (y_ptrField (o' := 0) s rfl underlying48 rfl rfl rfl) fun a s => ?_
  obtain ⟨hlq44, hmq44, csq44, hdq44, hcq44⟩ := hpp43
  obtain rfl := RQeq.open hdq44
  refine qq s rfl (y_ldp1 s rfl hlq44 hmq44 (hcq44 0 _ rfl) underlying3 rfl) fun a s => ?_
  refine l_seq rfl (l_buildDense (sz := 1) s 1907 rfl rfl rfl underlying30 rfl rfl rfl rfl rfl rfl rfl fun b45 a w hbb45 hK s => ?_)
  clear hbb45
  replace s := s.add 119 (rdF (Rep.num .i64) (cellsOfL [vI (x37.High)]) ([x37.High])) (RdAll.cons (by exact rfl) (RdAll.nil _ _ _))
  have hs47 := row_src (s.wd.holds 1907 _ rfl) (RdAll.one (s.ft 119 rfl))
  refine l_seq rfl (l_append (sz := 1) (by_ := 8) (N := (out_29 ++ [x37.High]).length) (ys := cs32 ++ (cellsOfL [vI (x37.High)])) s 700115 rfl rfl rfl underlying30 rfl rfl rfl rfl rfl hs47 (by simp) rfl (by have hr := hk40; clear hg; first | omega | (simp only [List.length_append, List.length_cons, List.length_nil] at hr ⊢; omega) | (simp at hr ⊢; omega)) (by have hr := hk40; clear hg; first | omega | (simp only [List.length_append, List.length_cons, List.length_nil] at hr ⊢; omega) | (simp at hr ⊢; omega)) rfl fun Aq46 cq46 a w hA hK s => ?_)
  replace s := s.add 120 (rdF (Rep.num .i64) (cs32 ++ (cellsOfL [vI (x37.High)])) (out_29 ++ [x37.High])) (RdAll.append (s.ft 116 rfl) (s.ft 119 rfl))
  refine asg s rfl rfl fun a s => ?_
  apply wN
  obtain ⟨hk51, hg⟩ := chk_some hg
  apply wL
  refine mv s rfl rfl fun a s => ?_
  refine qq s rfl (y_boxField (o' := 4) s rfl underlying26 rfl rfl rfl) fun a s => ?_
  refine qq s rfl (y_loadBox1 (kk := 1000) s rfl rfl rfl underlying24 rfl) fun a s => ?_
  refine mv s rfl rfl fun a s => ?_
  obtain ⟨p54, hep54, hpp54⟩ := SlR.elemX (s.ft 103 rfl) hx37
  refine qq s rfl (y_elem (sz := 2) (i := i_33) s rfl rfl underlying24 rfl hep54 rfl (lt_of_get hx37)) fun a s => ?_
  refine qq s rfl (y_ptrField (o' := 1) s rfl underlying48 rfl rfl rfl) fun a s => ?_
  obtain ⟨hlq55, hmq55, csq55, hdq55, hcq55⟩ := hpp54
  obtain rfl := RQeq.open hdq55
  refine qq s rfl (y_ldp1 s rfl hlq55 hmq55 (hcq55 1 _ rfl) underlying3 rfl) fun a s => ?_
  refine l_seq rfl (l_buildDense (sz := 1) s 2007 rfl rfl rfl underlying30 rfl rfl rfl rfl rfl rfl rfl fun b56 a w hbb56 hK s => ?_)
  clear hbb56
  replace s := s.add 123 (rdF (Rep.num .i64) (cellsOfL [vI (x37.Low)]) ([x37.Low])) (RdAll.cons (by exact rfl) (RdAll.nil _ _ _))
  have hs58 := row_src (s.wd.holds 2007 _ rfl) (RdAll.one (s.ft 123 rfl))
  refine l_seq rfl (l_append (sz := 1) (by_ := 8) (N := ((out_29 ++ [x37.High]) ++ [x37.Low]).length) (ys := (cs32 ++ (cellsOfL [vI (x37.High)])) ++ (cellsOfL [vI (x37.Low)])) s 700115 rfl rfl rfl underlying30 rfl rfl rfl rfl rfl hs58 (by simp) rfl (by have hr := hk51; clear hg; first | omega | (simp only [List.length_append, List.length_cons, List.length_nil] at hr ⊢; omega) | (simp at hr ⊢; omega)) (by have hr := hk51; clear hg; first | omega | (simp only [List.length_append, List.length_cons, List.length_nil] at hr ⊢; omega) | (simp at hr ⊢; omega)) rfl fun Aq57 cq57 a w hA hK s => ?_)
  replace s := s.add 124 (rdF (Rep.num .i64) ((cs32 ++ (cellsOfL [vI (x37.High)])) ++ (cellsOfL [vI (x37.Low)])) ((out_29 ++ [x37.High]) ++ [x37.Low])) (RdAll.append (s.ft 120 rfl) (s.ft 123 rfl))
  refine asg s rfl rfl fun a s => ?_
  apply wO
  refine p_inN ?_
  apply pN
  apply wL
  refine mv s rfl rfl fun a s => ?_
  refine qq s rfl (y_addN (i := i_33) (j := 1) s rfl rfl (in64.2 (by omega))) fun a s => ?_
  refine asg s rfl rfl fun a s => ?_
  apply wN
  replace s := s.add 116 (rdF (Rep.num .i64) ((cs32 ++ (cellsOfL [vI (x37.High)])) ++ (cellsOfL [vI (x37.Low)])) ((out_29 ++ [x37.High]) ++ [x37.Low])) (s.ft 124 rfl)
  exact ⟨m2, Nat.lt_succ_self _, ⟨((out_29 ++ [x37.High]) ++ [x37.Low]), (i_33 + 1), (Aq57), (cq57), ((cs32 ++ (cellsOfL [vI (x37.High)])) ++ (cellsOfL [vI (x37.Low)])), hg, (s.sb rfl rfl rfl)⟩⟩
 replace hg := br_f hg hc34
 apply wp_exit
 refine p_then ?_
 refine p_then ?_
 refine p_in ?_
 apply pN
 apply wR
 refine mv s rfl rfl fun a s => ?_
 refine asg s rfl rfl fun a s => ?_
 apply wN
 apply wp_ret
 obtain rfl := Option.some.inj hg
 refine fin1 (fn := Tryz.f65) s rfl (r_tmp s rfl) ?_
 exact ⟨(A30), (c31), rfl, (s.rowOut (R := (Rep.num .i64)) (kk := 700115) rfl rfl (s.ft 116 rfl))⟩
set_option maxHeartbeats 400000 in
theorem c_r39_Loose (n : Nat) (M : Bs) (w0 : World) (hM : ∀ b, M b → b < w0.heap.size) (t_ : MRS) (Ap03 : Option Addr) (cp03 : Nat) (Ap04 : Option Addr) (cp04 : Nat) (Ap05 : Option Addr) (cp05 : Nat) (hp03 : SlR Rep.str M w0 Ap03 (t_.Vars).length cp03 (t_.Vars)) (hp04 : SlR REP M w0 Ap04 (t_.Rels).length cp04 (t_.Rels)) (hp05 : SlR RQeq M w0 Ap05 (t_.Cons).length cp05 (t_.Cons)) (r : Int) (hg : r39_Loose n t_ = some r) :
    Calls Tryz.prog 46 [.agg #[.int .i64 (t_.Top), .int .i64 (t_.Index), .slice (Ap03) ((t_.Vars).length) (cp03), .slice (Ap04) ((t_.Rels).length) (cp04), .slice (Ap05) ((t_.Cons).length) (cp05)]].toArray w0 (Ret noB w0 fun v w => v = .int .i64 (r)) := by
 unfold r39_Loose at hg
 refine enter M noB func46 rfl rfl hM ?_
 intro a s
 replace s := s.es 101 hp03
 replace s := s.es 102 hp04
 replace s := s.es 103 hp05
 apply wR
 refine l_seq rfl (l_box (zs := [vI (t_.Top), vI (t_.Index), sl Ap03 (t_.Vars) cp03, sl Ap04 (t_.Rels) cp04, sl Ap05 (t_.Cons) cp05]) s 1000 rfl rfl rfl rfl fun b2 a w hb hK s => ?_)
 refine asg s rfl rfl fun a s => ?_
 apply wN
 apply wQ
 apply wQ
 obtain ⟨k3, hg, hk3⟩ := jn_some hg
 refine c_post (fun a w => ∃ (t_4 : Bool), k3 t_4 = some r ∧ St (⟨Tryz.f46.ntmps, M, noB, w0⟩ : Ctx) [(1, vP b2 0), (25, .bool (t_4))] [(1000, Ob.box b2 [vI (t_.Top), vI (t_.Index), sl Ap03 (t_.Vars) cp03, sl Ap04 (t_.Rels) cp04, sl Ap05 (t_.Cons) cp05] 26)] [(101, slF Rep.str (Ap03) ((t_.Vars).length) (cp03) (t_.Vars)), (102, slF REP (Ap04) ((t_.Rels).length) (cp04) (t_.Rels)), (103, slF RQeq (Ap05) ((t_.Cons).length) (cp05) (t_.Cons))] a w) ?_ ?_
 ·rcases Decidable.em ((16 : Nat) < ((t_.Rels).length)) with hs5 | hs5
  ·have hs5e := decide_eq_true hs5
   replace hg := br_t hg hs5
   have hmx6 := SlR.mx (s.ft 102 rfl)
   apply wL
   refine qq s rfl (y_boxField (o' := 3) s rfl underlying26 rfl rfl rfl) fun a s => ?_
   refine qq s rfl (y_loadBox1 (kk := 1000) s rfl rfl rfl underlying23 rfl) fun a s => ?_
   refine qq s rfl (y_lenSlice s rfl underlying23) fun a s => ?_
   refine qq s rfl (yl_b (y_gtrN (i := ((t_.Rels).length)) (j := 16) s rfl rfl) hs5e) fun a s => ?_
   refine mv s rfl rfl fun a s => ?_
   refine gn s rfl fun a s => ?_
   refine gn s rfl fun a s => ?_
   refine gn s rfl fun a s => ?_
   refine gn s rfl fun a s => ?_
   refine qq s rfl (y_pick_t s rfl rfl) fun a s => ?_
   refine mv s rfl rfl fun a s => ?_
   refine gn s rfl fun a s => ?_
   refine gn s rfl fun a s => ?_
   refine gn s rfl fun a s => ?_
   refine gn s rfl fun a s => ?_
   refine qq s rfl (y_pick_t s rfl rfl) fun a s => ?_
   apply wN
   exact ⟨(true), hg, (s.sb rfl rfl rfl)⟩
  have hs5e := decide_eq_false hs5
  replace hg := br_f hg hs5
  rcases Decidable.em ((16 : Nat) < ((t_.Cons).length)) with hs7 | hs7
  ·have hs7e := decide_eq_true hs7
   replace hg := br_t hg hs7
   have hmx8 := SlR.mx (s.ft 103 rfl)
   apply wL
   refine qq s rfl (y_boxField (o' := 3) s rfl underlying26 rfl rfl rfl) fun a s => ?_
   refine qq s rfl (y_loadBox1 (kk := 1000) s rfl rfl rfl underlying23 rfl) fun a s => ?_
   refine qq s rfl (y_lenSlice s rfl underlying23) fun a s => ?_
   refine qq s rfl (yl_b (y_gtrN (i := ((t_.Rels).length)) (j := 16) s rfl rfl) hs5e) fun a s => ?_
   refine mv s rfl rfl fun a s => ?_
   refine gy s rfl (y_boxField (o' := 4) s rfl underlying26 rfl rfl rfl) fun a s => ?_
   refine gy s rfl (y_loadBox1 (kk := 1000) s rfl rfl rfl underlying24 rfl) fun a s => ?_
   refine gy s rfl (y_lenSlice s rfl underlying24) fun a s => ?_
   refine gy s rfl (yl_b (y_gtrN (i := ((t_.Cons).length)) (j := 16) s rfl rfl) hs7e) fun a s => ?_
   refine qq s rfl (y_pick_f s rfl rfl) fun a s => ?_
   refine mv s rfl rfl fun a s => ?_
   refine gn s rfl fun a s => ?_
   refine gn s rfl fun a s => ?_
   refine gn s rfl fun a s => ?_
   refine gn s rfl fun a s => ?_
   refine qq s rfl (y_pick_t s rfl rfl) fun a s => ?_
   apply wN
   exact ⟨(true), hg, (s.sb rfl rfl rfl)⟩
  have hs7e := decide_eq_false hs7
  replace hg := br_f hg hs7
  apply wL
  refine qq s rfl (y_boxField (o' := 3) s rfl underlying26 rfl rfl rfl) fun a s => ?_
  refine qq s rfl (y_loadBox1 (kk := 1000) s rfl rfl rfl underlying23 rfl) fun a s => ?_
  refine qq s rfl (y_lenSlice s rfl underlying23) fun a s => ?_
  refine qq s rfl (yl_b (y_gtrN (i := ((t_.Rels).length)) (j := 16) s rfl rfl) hs5e) fun a s => ?_
  refine mv s rfl rfl fun a s => ?_
  refine gy s rfl (y_boxField (o' := 4) s rfl underlying26 rfl rfl rfl) fun a s => ?_
  refine gy s rfl (y_loadBox1 (kk := 1000) s rfl rfl rfl underlying24 rfl) fun a s => ?_
  refine gy s rfl (y_lenSlice s rfl underlying24) fun a s => ?_
  refine gy s rfl (yl_b (y_gtrN (i := ((t_.Cons).length)) (j := 16) s rfl rfl) hs7e) fun a s => ?_
  refine qq s rfl (y_pick_f s rfl rfl) fun a s => ?_
  refine mv s rfl rfl fun a s => ?_
  refine gy s rfl (y_boxField (o' := 2) s rfl underlying26 rfl rfl rfl) fun a s => ?_
  refine gy s rfl (y_loadBox1 (kk := 1000) s rfl rfl rfl underlying22 rfl) fun a s => ?_
  refine gy s rfl (y_lenSlice s rfl underlying22) fun a s => ?_
  refine gy s rfl (y_gtrN (i := ((t_.Vars).length)) (j := 256) s rfl rfl) fun a s => ?_
  refine qq s rfl (y_pick_f s rfl rfl) fun a s => ?_
  apply wN
  exact ⟨(decide ((256 : Nat) < ((t_.Vars).length))), hg, (s.sb rfl rfl rfl)⟩
 clear s a; rintro a w ⟨t_4, hg, s⟩
 subst hk3
 refine c_cond s rfl (fun hc9 => ?_) (fun hc9 => ?_)
 ·replace hg := br_t hg hc9
  apply wR
  refine asg s rfl rfl fun a s => ?_
  apply wN
  apply wp_ret
  refine p_thenR ?_
  obtain rfl := Option.some.inj hg
  refine fin1 (fn := Tryz.f46) s rfl (r_tmp s rfl) ?_
  exact rfl
 replace hg := br_n hg hc9
 apply wp_skip
 apply pN
 apply wQ
 apply wR
 refine asg s rfl rfl fun a s => ?_
 apply wN
 obtain ⟨k10, hg, hk10⟩ := jn_some hg
 refine c_post (fun a w => k10 = some r ∧ St (⟨Tryz.f46.ntmps, M, noB, w0⟩ : Ctx) [(1, vP b2 0)] [(1000, Ob.box b2 [vI (t_.Top), vI (t_.Index), sl Ap03 (t_.Vars) cp03, sl Ap04 (t_.Rels) cp04, sl Ap05 (t_.Cons) cp05] 26)] [(101, slF Rep.str (Ap03) ((t_.Vars).length) (cp03) (t_.Vars)), (102, slF REP (Ap04) ((t_.Rels).length) (cp04) (t_.Rels)), (103, slF RQeq (Ap05) ((t_.Cons).length) (cp05) (t_.Cons))] a w) ?_ ?_
 ·apply wp_block
  refine c_loop (σ := Nat) (fun m1 a w => ∃ (t_11 : Nat), r39_Loose_L0 n t_ k10 m1 t_11 = some r ∧ St (⟨Tryz.f46.ntmps, M, noB, w0⟩ : Ctx) [(1, vP b2 0), (3, vI (((t_11 : Nat) : Int)))] [(1000, Ob.box b2 [vI (t_.Top), vI (t_.Index), sl Ap03 (t_.Vars) cp03, sl Ap04 (t_.Rels) cp04, sl Ap05 (t_.Cons) cp05] 26)] [(101, slF Rep.str (Ap03) ((t_.Vars).length) (cp03) (t_.Vars)), (102, slF REP (Ap04) ((t_.Rels).length) (cp04) (t_.Rels)), (103, slF RQeq (Ap05) ((t_.Cons).length) (cp05) (t_.Cons))] a w) (fun m1 => m1) n ⟨(0), hg, (s.sb rfl rfl rfl)⟩ ?_
  clear s a; rintro m1 a w ⟨t_11, hg, s⟩
  rcases m1 with _ | m1
  ·rw [r39_Loose_L0] at hg; cases hg
  rw [r39_Loose_L0] at hg
  apply wQ
  apply wR
  refine mv s rfl rfl fun a s => ?_
  refine qq s rfl (y_boxField (o' := 2) s rfl underlying26 rfl rfl rfl) fun a s => ?_
  refine qq s rfl (y_loadBox1 (kk := 1000) s rfl rfl rfl underlying22 rfl) fun a s => ?_
  refine qq s rfl (y_lenSlice s rfl underlying22) fun a s => ?_
  refine qq s rfl (y_lssN (i := t_11) (j := ((t_.Vars).length)) s rfl rfl) fun a s => ?_
  apply wN
  refine c_dec s rfl (fun hc12 => ?_) (fun hc12 => ?_)
  ·replace hg := br_t hg hc12
   have hmx13 := SlR.mx (s.ft 101 rfl)
   apply wp_skip
   apply pN
   apply wQ
   apply wp_block
   apply wQ
   obtain ⟨x15, hx15, hg⟩ := bind_some hg
   obtain ⟨r17, hr17, hg⟩ := bind_some hg
   apply wL
   refine qq s rfl (y_boxField (o' := 2) s rfl underlying26 rfl rfl rfl) fun a s => ?_
   refine qq s rfl (y_loadBox1 (kk := 1000) s rfl rfl rfl underlying22 rfl) fun a s => ?_
   refine mv s rfl rfl fun a s => ?_
   obtain ⟨p20, hep20, hpp20⟩ := SlR.elemX (s.ft 101 rfl) hx15
   refine qq s rfl (y_elem (sz := 1) (i := t_11) s rfl rfl underlying22 rfl hep20 rfl (lt_of_get hx15)) fun a s => ?_
   obtain ⟨hlq21, hmq21, csq21, hdq21, hcq21⟩ := hpp20
   obtain ⟨rfl, lq211⟩ := hdq21
   refine qq s rfl (y_ldp1 s rfl hlq21 hmq21 (hcq21 0 _ rfl) underlying9 rfl) fun a s => ?_
   refine l_seq rfl (l_call (cap := []) s rfl func62 rfl (by kernel_rfl) rfl rfl (c_r39_sorted n _ _ s.lt x15 (by omega) r17 hr17) fun v22 a w hK hp s => ?_)
   obtain rfl := hp
   refine qq s rfl (y_not s rfl) fun a s => ?_
   apply wN
   refine c_cond s rfl (fun hc24 => ?_) (fun hc24 => ?_)
   ·replace hg := br_t hg hc24
    apply wR
    refine asg s rfl rfl fun a s => ?_
    apply wN
    apply wp_ret
    refine p_inR ?_
    refine p_thenR ?_
    refine p_thenR ?_
    refine p_inR ?_
    refine p_thenR ?_
    obtain rfl := Option.some.inj hg
    refine fin1 (fn := Tryz.f46) s rfl (r_tmp s rfl) ?_
    exact rfl
   replace hg := br_n hg hc24
   apply wp_skip
   refine p_inN ?_
   apply pN
   apply wL
   refine mv s rfl rfl fun a s => ?_
   refine qq s rfl (y_addN (i := t_11) (j := 1) s rfl rfl (in64.2 (by omega))) fun a s => ?_
   refine asg s rfl rfl fun a s => ?_
   apply wN
   exact ⟨m1, Nat.lt_succ_self _, ⟨(t_11 + 1), hg, (s.sb rfl rfl rfl)⟩⟩
  replace hg := br_f hg hc12
  apply wp_exit
  refine p_then ?_
  refine p_then ?_
  refine p_in ?_
  apply pN
  exact ⟨hg, (s.sb rfl rfl rfl)⟩
 clear s a; rintro a w ⟨hg, s⟩
 subst hk10
 apply wQ
 apply wR
 refine asg s rfl rfl fun a s => ?_
 apply wN
 obtain ⟨k25, hg, hk25⟩ := jn_some hg
 refine c_post (fun a w => k25 = some r ∧ St (⟨Tryz.f46.ntmps, M, noB, w0⟩ : Ctx) [(1, vP b2 0)] [(1000, Ob.box b2 [vI (t_.Top), vI (t_.Index), sl Ap03 (t_.Vars) cp03, sl Ap04 (t_.Rels) cp04, sl Ap05 (t_.Cons) cp05] 26)] [(101, slF Rep.str (Ap03) ((t_.Vars).length) (cp03) (t_.Vars)), (102, slF REP (Ap04) ((t_.Rels).length) (cp04) (t_.Rels)), (103, slF RQeq (Ap05) ((t_.Cons).length) (cp05) (t_.Cons))] a w) ?_ ?_
 ·apply wp_block
  refine c_loop (σ := Nat) (fun m2 a w => ∃ (t_26 : Nat), r39_Loose_L1 n t_ k25 m2 t_26 = some r ∧ St (⟨Tryz.f46.ntmps, M, noB, w0⟩ : Ctx) [(1, vP b2 0), (4, vI (((t_26 : Nat) : Int)))] [(1000, Ob.box b2 [vI (t_.Top), vI (t_.Index), sl Ap03 (t_.Vars) cp03, sl Ap04 (t_.Rels) cp04, sl Ap05 (t_.Cons) cp05] 26)] [(101, slF Rep.str (Ap03) ((t_.Vars).length) (cp03) (t_.Vars)), (102, slF REP (Ap04) ((t_.Rels).length) (cp04) (t_.Rels)), (103, slF RQeq (Ap05) ((t_.Cons).length) (cp05) (t_.Cons))] a w) (fun m2 => m2) n ⟨(0), hg, (s.sb rfl rfl rfl)⟩ ?_
  clear s a; rintro m2 a w ⟨t_26, hg, s⟩
  rcases m2 with _ | m2
  ·rw [r39_Loose_L1] at hg; cases hg
  rw [r39_Loose_L1] at hg
  apply wQ
  apply wR
  refine mv s rfl rfl fun a s => ?_
  refine qq s rfl (y_boxField (o' := 3) s rfl underlying26 rfl rfl rfl) fun a s => ?_
  refine qq s rfl (y_loadBox1 (kk := 1000) s rfl rfl rfl underlying23 rfl) fun a s => ?_
  refine qq s rfl (y_lenSlice s rfl underlying23) fun a s => ?_
  refine qq s rfl (y_lssN (i := t_26) (j := ((t_.Rels).length)) s rfl rfl) fun a s => ?_
  apply wN
  refine c_dec s rfl (fun hc27 => ?_) (fun hc27 => ?_)
  ·replace hg := br_t hg hc27
   have hmx28 := SlR.mx (s.ft 102 rfl)
   apply wp_skip
   apply pN
   apply wQ
   apply wp_block
   apply wQ
   obtain ⟨x30, hx30, hg⟩ := bind_some hg
   obtain ⟨r32, hr32, hg⟩ := bind_some hg
   apply wL
   refine qq s rfl (y_boxField (o' := 3) s rfl underlying26 rfl rfl rfl) fun a s => ?_
   refine qq s rfl (y_loadBox1 (kk := 1000) s rfl rfl rfl underlying23 rfl) fun a s => ?_
   refine mv s rfl rfl fun a s => ?_
   obtain ⟨p35, hep35, hpp35⟩ := SlR.elemX (s.ft 102 rfl) hx30
   refine qq s rfl (y_elem (sz := 3) (i := t_26) s rfl rfl underlying23 rfl hep35 rfl (lt_of_get hx30)) fun a s => ?_
   obtain ⟨hlq36, hmq36, csq36, hdq36, hcq36⟩ := hpp35
   obtain ⟨Aq363, cq363, rfl, lq361, hq363⟩ := REP.open hdq36
   replace s := s.ns 105 hq363
   refine qq s rfl (y_ldp s rfl hlq36 hmq36 (by simpa using hcq36) underlying43 rfl rfl) fun a s => ?_
   refine l_seq rfl (l_call (cap := []) s rfl func63 rfl (by kernel_rfl) rfl rfl (c_r39_predication n _ _ s.lt x30 (Aq363) (cq363) (by omega) (s.ft 105 rfl) r32 hr32) fun v37 a w hK hp s => ?_)
   obtain rfl := hp
   refine asg s rfl rfl fun a s => ?_
   apply wN
   apply wR
   refine mv s rfl rfl fun a s => ?_
   refine qq s rfl (y_neq s rfl rfl) fun a s => ?_
   apply wN
   refine c_dec s rfl (fun hc39 => ?_) (fun hc39 => ?_)
   ·replace hg := br_t hg hc39
    apply wR
    refine mv s rfl rfl fun a s => ?_
    refine asg s rfl rfl fun a s => ?_
    apply wN
    apply wp_ret
    refine p_inR ?_
    refine p_thenR ?_
    refine p_thenR ?_
    refine p_inR ?_
    refine p_thenR ?_
    obtain rfl := Option.some.inj hg
    refine fin1 (fn := Tryz.f46) s rfl (r_tmp s rfl) ?_
    exact rfl
   replace hg := br_f hg hc39
   apply wp_skip
   refine p_inN ?_
   apply pN
   apply wL
   refine mv s rfl rfl fun a s => ?_
   refine qq s rfl (y_addN (i := t_26) (j := 1) s rfl rfl (in64.2 (by omega))) fun a s => ?_
   refine asg s rfl rfl fun a s => ?_
   apply wN
   exact ⟨m2, Nat.lt_succ_self _, ⟨(t_26 + 1), hg, (s.sb rfl rfl rfl)⟩⟩
  replace hg := br_f hg hc27
  apply wp_exit
  refine p_then ?_
  refine p_then ?_
  refine p_in ?_
  apply pN
  exact ⟨hg, (s.sb rfl rfl rfl)⟩
 clear s a; rintro a w ⟨hg, s⟩
 subst hk25
 apply wQ
 obtain ⟨r40, hr40, hg⟩ := bind_some hg
 apply wL
 refine qq s rfl (y_loadAll (kk := 1000) s rfl rfl underlying26 rfl rfl) fun a s => ?_
 refine l_seq rfl (l_call (cap := []) s rfl func64 rfl (by kernel_rfl) rfl rfl (c_r39_Occurrences n _ _ s.lt t_ (Ap03) (cp03) (Ap04) (cp04) (Ap05) (cp05) (s.ft 101 rfl) (s.ft 102 rfl) (s.ft 103 rfl) r40 hr40) fun v43 a w hK hp s => ?_)
 obtain ⟨Au44a1, cu44a1, rfl, hu44a1⟩ := hp
 replace s := s.ns 107 hu44a1
 refine asg s rfl rfl fun a s => ?_
 apply wN
 apply wQ
 apply wR
 refine asg s rfl rfl fun a s => ?_
 apply wN
 obtain ⟨k45, hg, hk45⟩ := jn_some hg
 refine c_post (fun a w => k45 = some r ∧ St (⟨Tryz.f46.ntmps, M, noB, w0⟩ : Ctx) [(1, vP b2 0)] [(1000, Ob.box b2 [vI (t_.Top), vI (t_.Index), sl Ap03 (t_.Vars) cp03, sl Ap04 (t_.Rels) cp04, sl Ap05 (t_.Cons) cp05] 26)] [(101, slF Rep.str (Ap03) ((t_.Vars).length) (cp03) (t_.Vars)), (102, slF REP (Ap04) ((t_.Rels).length) (cp04) (t_.Rels)), (103, slF RQeq (Ap05) ((t_.Cons).length) (cp05) (t_.Cons))] a w) ?_ ?_
 ·apply wp_block
  refine c_loop (σ := Nat) (fun m3 a w => ∃ (t_46 : Nat), r39_Loose_L2 n t_ r40 k45 m3 t_46 = some r ∧ St (⟨Tryz.f46.ntmps, M, noB, w0⟩ : Ctx) [(1, vP b2 0), (6, sl Au44a1 (r40) cu44a1), (7, vI (((t_46 : Nat) : Int)))] [(1000, Ob.box b2 [vI (t_.Top), vI (t_.Index), sl Ap03 (t_.Vars) cp03, sl Ap04 (t_.Rels) cp04, sl Ap05 (t_.Cons) cp05] 26)] [(101, slF Rep.str (Ap03) ((t_.Vars).length) (cp03) (t_.Vars)), (102, slF REP (Ap04) ((t_.Rels).length) (cp04) (t_.Rels)), (103, slF RQeq (Ap05) ((t_.Cons).length) (cp05) (t_.Cons)), (107, slF (Rep.num .i64) (Au44a1) ((r40).length) (cu44a1) (r40))] a w) (fun m3 => m3) n ⟨(0), hg, (s.sb rfl rfl rfl)⟩ ?_
  clear s a; rintro m3 a w ⟨t_46, hg, s⟩
  rcases m3 with _ | m3
  ·rw [r39_Loose_L2] at hg; cases hg
  rw [r39_Loose_L2] at hg
  apply wQ
  apply wR
  refine mv s rfl rfl fun a s => ?_
  refine mv s rfl rfl fun a s => ?_
  refine qq s rfl (y_lenSlice s rfl underlying30) fun a s => ?_
  refine qq s rfl (y_lssN (i := t_46) (j := ((r40).length)) s rfl rfl) fun a s => ?_
  apply wN
  refine c_dec s rfl (fun hc47 => ?_) (fun hc47 => ?_)
  ·replace hg := br_t hg hc47
   have hmx48 := SlR.mx (s.ft 107 rfl)
   apply wp_skip
   apply pN
   apply wQ
   apply wp_block
   apply wQ
   obtain ⟨k49, hg, hk49⟩ := jn_some hg
   refine c_post (fun a w => ∃ (t_50 : Bool), k49 t_50 = some r ∧ St (⟨Tryz.f46.ntmps, M, noB, w0⟩ : Ctx) [(1, vP b2 0), (6, sl Au44a1 (r40) cu44a1), (7, vI (((t_46 : Nat) : Int))), (78, .bool (t_50))] [(1000, Ob.box b2 [vI (t_.Top), vI (t_.Index), sl Ap03 (t_.Vars) cp03, sl Ap04 (t_.Rels) cp04, sl Ap05 (t_.Cons) cp05] 26)] [(101, slF Rep.str (Ap03) ((t_.Vars).length) (cp03) (t_.Vars)), (102, slF REP (Ap04) ((t_.Rels).length) (cp04) (t_.Rels)), (103, slF RQeq (Ap05) ((t_.Cons).length) (cp05) (t_.Cons)), (107, slF (Rep.num .i64) (Au44a1) ((r40).length) (cu44a1) (r40))] a w) ?_ ?_
   ·obtain ⟨x52, hx52, hg⟩ := bind_some hg
    rcases Decidable.em (x52 < 0) with hs54 | hs54
    ·have hs54e := decide_eq_true hs54
     replace hg := br_t hg hs54
     refine d_plan s [] [(0, some 0), (1, some 0), (2, some 0), (3, some 0), (4, some 0), (5, some 0), (6, some 0), (7, some 0), (8, some 0), (9, some 0), (10, some 0), (11, some 0), (12, some 0), (13, some 0), (14, some 0)] rfl (by kernel_rfl) (by kernel_rfl) rfl ?_; clear s; intro wr hZ s; have hR := s.wd
     refine qt s hR rfl (y_move s rfl) fun a s => ?_
     refine qt s hR rfl (y_move s rfl) fun a s => ?_
     obtain ⟨p55, hep55, hpp55⟩ := SlR.elemX (s.ft 107 rfl) hx52
     refine qt s hR rfl (y_elem (sz := 1) (i := t_46) s rfl rfl underlying30 rfl hep55 rfl (lt_of_get hx52)) fun a s => ?_
     obtain ⟨hlq56, hmq56, csq56, hdq56, hcq56⟩ := hpp55
     obtain rfl := hdq56
     refine qt s hR rfl (y_ldp1 s rfl hlq56 hmq56 (hcq56 0 _ rfl) underlying3 rfl) fun a s => ?_
     refine qt s hR rfl (yl_b (y_lss s rfl rfl) hs54e) fun a s => ?_
     refine qt s hR rfl (y_move s rfl) fun a s => ?_
     refine q_pass s hR rfl rfl ⟨_, _, _, rfl, rfl, rfl, rfl⟩ rfl fun a s => ?_
     refine q_pass s hR rfl rfl ⟨_, _, _, rfl, rfl, rfl, rfl⟩ rfl fun a s => ?_
     refine q_pass s hR rfl rfl ⟨_, _, _, rfl, rfl, rfl, rfl⟩ rfl fun a s => ?_
     refine q_pass s hR rfl rfl ⟨_, _, _, rfl, rfl, rfl, rfl⟩ rfl fun a s => ?_
     refine q_pass s hR rfl rfl ⟨_, _, _, rfl, rfl, rfl, rfl⟩ rfl fun a s => ?_
     refine q_pass s hR rfl rfl ⟨_, _, _, rfl, rfl, rfl, rfl⟩ rfl fun a s => ?_
     refine q_pass s hR rfl rfl ⟨_, _, _, rfl, rfl, rfl, rfl⟩ rfl fun a s => ?_
     refine q_pass s hR rfl rfl ⟨_, _, _, rfl, rfl, rfl, rfl⟩ rfl fun a s => ?_
     refine qt s hR rfl (y_pick_t s rfl rfl) fun a s => ?_
     clear hR hZ
     apply pN
     exact ⟨(true), hg, (s.sb rfl rfl rfl)⟩
    have hs54e := decide_eq_false hs54
    replace hg := br_f hg hs54
    refine d_plan s [] [(0, some 0), (1, some 0), (2, some 0), (3, some 0), (4, some 0), (5, some 0), (6, some 0), (7, some 0), (8, some 0), (9, some 0), (10, some 0), (11, some 1000), (12, some 0), (13, some 0), (14, some 0)] rfl (by kernel_rfl) (by kernel_rfl) rfl ?_; clear s; intro wr hZ s; have hR := s.wd
    refine qt s hR rfl (y_move s rfl) fun a s => ?_
    refine qt s hR rfl (y_move s rfl) fun a s => ?_
    obtain ⟨p59, hep59, hpp59⟩ := SlR.elemX (s.ft 107 rfl) hx52
    refine qt s hR rfl (y_elem (sz := 1) (i := t_46) s rfl rfl underlying30 rfl hep59 rfl (lt_of_get hx52)) fun a s => ?_
    obtain ⟨hlq60, hmq60, csq60, hdq60, hcq60⟩ := hpp59
    obtain rfl := hdq60
    refine qt s hR rfl (y_ldp1 s rfl hlq60 hmq60 (hcq60 0 _ rfl) underlying3 rfl) fun a s => ?_
    refine qt s hR rfl (yl_b (y_lss s rfl rfl) hs54e) fun a s => ?_
    refine qt s hR rfl (y_move s rfl) fun a s => ?_
    refine qg s hR rfl (y_move s rfl) fun a s => ?_
    refine qg s hR rfl (y_move s rfl) fun a s => ?_
    obtain ⟨p61, hep61, hpp61⟩ := SlR.elemX (s.ft 107 rfl) hx52
    refine qg s hR rfl (y_elem (sz := 1) (i := t_46) s rfl rfl underlying30 rfl hep61 rfl (lt_of_get hx52)) fun a s => ?_
    obtain ⟨hlq62, hmq62, csq62, hdq62, hcq62⟩ := hpp61
    obtain rfl := hdq62
    refine qg s hR rfl (y_ldp1 s rfl hlq62 hmq62 (hcq62 0 _ rfl) underlying3 rfl) fun a s => ?_
    refine qg s hR rfl (y_boxField (o' := 2) s rfl underlying26 rfl rfl rfl) fun a s => ?_
    refine qg s hR rfl (y_loadBox1 (kk := 1000) s rfl rfl rfl underlying22 rfl) fun a s => ?_
    refine qg s hR rfl (y_lenSlice s rfl underlying22) fun a s => ?_
    refine qg s hR rfl (y_geq s rfl rfl) fun a s => ?_
    refine qt s hR rfl (y_pick_f s rfl rfl) fun a s => ?_
    clear hR hZ
    apply pN
    exact ⟨(decide ((((t_.Vars).length : Nat) : Int) ≤ x52)), hg, (s.sb rfl rfl rfl)⟩
   clear s a; rintro a w ⟨t_50, hg, s⟩
   subst hk49
   refine c_cond s rfl (fun hc63 => ?_) (fun hc63 => ?_)
   ·replace hg := br_t hg hc63
    apply wR
    refine asg s rfl rfl fun a s => ?_
    apply wN
    apply wp_ret
    refine p_inR ?_
    refine p_thenR ?_
    refine p_thenR ?_
    refine p_inR ?_
    refine p_thenR ?_
    obtain rfl := Option.some.inj hg
    refine fin1 (fn := Tryz.f46) s rfl (r_tmp s rfl) ?_
    exact rfl
   replace hg := br_n hg hc63
   apply wp_skip
   refine p_inN ?_
   apply pN
   apply wL
   refine mv s rfl rfl fun a s => ?_
   refine qq s rfl (y_addN (i := t_46) (j := 1) s rfl rfl (in64.2 (by omega))) fun a s => ?_
   refine asg s rfl rfl fun a s => ?_
   apply wN
   exact ⟨m3, Nat.lt_succ_self _, ⟨(t_46 + 1), hg, (s.sb rfl rfl rfl)⟩⟩
  replace hg := br_f hg hc47
  apply wp_exit
  refine p_then ?_
  refine p_then ?_
  refine p_in ?_
  apply pN
  exact ⟨hg, (s.sb rfl rfl rfl)⟩
 clear s a; rintro a w ⟨hg, s⟩
 subst hk45
 apply wQ
 obtain ⟨r64, hr64, hg⟩ := bind_some hg
 apply wL
 refine qq s rfl (y_loadAll (kk := 1000) s rfl rfl underlying26 rfl rfl) fun a s => ?_
 refine l_seq rfl (l_call (cap := []) s rfl func65 rfl (by kernel_rfl) rfl rfl (c_r39_handles n _ _ s.lt t_ (Ap03) (cp03) (Ap04) (cp04) (Ap05) (cp05) (s.ft 101 rfl) (s.ft 102 rfl) (s.ft 103 rfl) r64 hr64) fun v67 a w hK hp s => ?_)
 obtain ⟨Au68a1, cu68a1, rfl, hu68a1⟩ := hp
 replace s := s.ns 109 hu68a1
 refine asg s rfl rfl fun a s => ?_
 apply wN
 apply wQ
 apply wR
 refine asg s rfl rfl fun a s => ?_
 apply wN
 apply wp_block
 refine c_loop (σ := Nat) (fun m4 a w => ∃ (t_69 : Nat), r39_Loose_L3 n t_ r64 m4 t_69 = some r ∧ St (⟨Tryz.f46.ntmps, M, noB, w0⟩ : Ctx) [(1, vP b2 0), (8, sl Au68a1 (r64) cu68a1), (9, vI (((t_69 : Nat) : Int)))] [(1000, Ob.box b2 [vI (t_.Top), vI (t_.Index), sl Ap03 (t_.Vars) cp03, sl Ap04 (t_.Rels) cp04, sl Ap05 (t_.Cons) cp05] 26)] [(101, slF Rep.str (Ap03) ((t_.Vars).length) (cp03) (t_.Vars)), (102, slF REP (Ap04) ((t_.Rels).length) (cp04) (t_.Rels)), (103, slF RQeq (Ap05) ((t_.Cons).length) (cp05) (t_.Cons)), (109, slF (Rep.num .i64) (Au68a1) ((r64).length) (cu68a1) (r64))] a w) (fun m4 => m4) n ⟨(0), hg, (s.sb rfl rfl rfl)⟩ ?_
 clear s a; rintro m4 a w ⟨t_69, hg, s⟩
 rcases m4 with _ | m4
 ·rw [r39_Loose_L3] at hg; cases hg
 rw [r39_Loose_L3] at hg
 apply wQ
 apply wR
 refine mv s rfl rfl fun a s => ?_
 refine mv s rfl rfl fun a s => ?_
 refine qq s rfl (y_lenSlice s rfl underlying30) fun a s => ?_
 refine qq s rfl (y_lssN (i := t_69) (j := ((r64).length)) s rfl rfl) fun a s => ?_
 apply wN
 refine c_dec s rfl (fun hc70 => ?_) (fun hc70 => ?_)
 ·replace hg := br_t hg hc70
  have hmx71 := SlR.mx (s.ft 109 rfl)
  apply wp_skip
  apply pN
  apply wQ
  apply wp_block
  apply wQ
  obtain ⟨x73, hx73, hg⟩ := bind_some hg
  obtain ⟨x76, hx76, hg⟩ := bind_some hg
  refine d_plan s [] [(0, some 0), (1, some 1000), (2, some 0), (3, some 0), (4, some 0), (5, some 0), (6, some 0), (7, some 0), (8, some 0)] rfl (by kernel_rfl) (by kernel_rfl) rfl ?_; clear s; intro wr hZ s; have hR := s.wd
  refine qt s hR rfl (y_boxField (o' := 2) s rfl underlying26 rfl rfl rfl) fun a s => ?_
  refine qt s hR rfl (y_loadBox1 (kk := 1000) s rfl rfl rfl underlying22 rfl) fun a s => ?_
  refine qt s hR rfl (y_move s rfl) fun a s => ?_
  refine qt s hR rfl (y_move s rfl) fun a s => ?_
  obtain ⟨p78, hep78, hpp78⟩ := SlR.elemX (s.ft 109 rfl) hx73
  refine qt s hR rfl (y_elem (sz := 1) (i := t_69) s rfl rfl underlying30 rfl hep78 rfl (lt_of_get hx73)) fun a s => ?_
  obtain ⟨hlq79, hmq79, csq79, hdq79, hcq79⟩ := hpp78
  obtain rfl := hdq79
  refine qt s hR rfl (y_ldp1 s rfl hlq79 hmq79 (hcq79 0 _ rfl) underlying3 rfl) fun a s => ?_
  obtain ⟨p80, hep80, hpp80⟩ := SlR.elemX (s.ft 101 rfl) (ix_some hx76).1
  refine qt s hR rfl (y_elem (sz := 1) (i := ((x73).toNat)) s rfl rfl underlying22 rfl hep80 (ix_some hx76).2.1 (lt_of_get (ix_some hx76).1)) fun a s => ?_
  obtain ⟨hlq81, hmq81, csq81, hdq81, hcq81⟩ := hpp80
  obtain ⟨rfl, lq811⟩ := hdq81
  refine qt s hR rfl (y_ldp1 s rfl hlq81 hmq81 (hcq81 0 _ rfl) underlying9 rfl) fun a s => ?_
  refine qt s hR rfl (y_sne s rfl rfl) fun a s => ?_
  clear hR hZ
  apply pN
  refine c_dec s rfl (fun hc82 => ?_) (fun hc82 => ?_)
  ·replace hg := br_t hg hc82
   apply wR
   refine asg s rfl rfl fun a s => ?_
   apply wN
   apply wp_ret
   refine p_inR ?_
   refine p_thenR ?_
   refine p_thenR ?_
   refine p_inR ?_
   refine p_thenR ?_
   obtain rfl := Option.some.inj hg
   refine fin1 (fn := Tryz.f46) s rfl (r_tmp s rfl) ?_
   exact rfl
  replace hg := br_f hg hc82
  apply wp_skip
  refine p_inN ?_
  apply pN
  apply wL
  refine mv s rfl rfl fun a s => ?_
  refine qq s rfl (y_addN (i := t_69) (j := 1) s rfl rfl (in64.2 (by omega))) fun a s => ?_
  refine asg s rfl rfl fun a s => ?_
  apply wN
  exact ⟨m4, Nat.lt_succ_self _, ⟨(t_69 + 1), hg, (s.sb rfl rfl rfl)⟩⟩
 replace hg := br_f hg hc70
 apply wp_exit
 refine p_then ?_
 refine p_then ?_
 refine p_in ?_
 apply pN
 apply wR
 refine asg s rfl rfl fun a s => ?_
 apply wN
 apply wp_ret
 obtain rfl := Option.some.inj hg
 refine fin1 (fn := Tryz.f46) s rfl (r_tmp s rfl) ?_
 exact rfl
set_option maxHeartbeats 400000 in
theorem c_r39_place (n : Nat) (M : Bs) (w0 : World) (hM : ∀ b, M b → b < w0.heap.size) (l_ : (List Int)) (Ap01 : Option Addr) (cp01 : Nat) (hp01 : SlR (Rep.num .i64) M w0 Ap01 (l_).length cp01 (l_)) (n_ : Int) (r : Int) (hg : r39_place n l_ n_ = some r) :
    Calls Tryz.prog 66 [.slice (Ap01) ((l_).length) (cp01), .int .i64 (n_)].toArray w0 (Ret noB w0 fun v w => v = .int .i64 (r)) := by
 unfold r39_place at hg
 refine enter M noB func66 rfl rfl hM ?_
 intro a s
 replace s := s.es 101 hp01
 apply wR
 refine asg s rfl rfl fun a s => ?_
 apply wN
 apply wQ
 apply wR
 refine asg s rfl rfl fun a s => ?_
 apply wN
 apply wp_block
 refine c_loop (σ := Nat) (fun m1 a w => ∃ (i_1 : Nat), r39_place_L0 n l_ n_ m1 i_1 = some r ∧ St (⟨Tryz.f66.ntmps, M, noB, w0⟩ : Ctx) [(0, sl Ap01 (l_) cp01), (1, vI n_), (5, vI (((i_1 : Nat) : Int)))] [] [(101, slF (Rep.num .i64) (Ap01) ((l_).length) (cp01) (l_))] a w) (fun m1 => m1) n ⟨(0), hg, (s.sb rfl rfl rfl)⟩ ?_
 clear s a; rintro m1 a w ⟨i_1, hg, s⟩
 rcases m1 with _ | m1
 ·rw [r39_place_L0] at hg; cases hg
 rw [r39_place_L0] at hg
 apply wQ
 apply wR
 refine mv s rfl rfl fun a s => ?_
 refine mv s rfl rfl fun a s => ?_
 refine qq s rfl (y_lenSlice s rfl underlying30) fun a s => ?_
 refine qq s rfl (y_lssN (i := i_1) (j := ((l_).length)) s rfl rfl) fun a s => ?_
 apply wN
 refine c_dec s rfl (fun hc2 => ?_) (fun hc2 => ?_)
 ·replace hg := br_t hg hc2
  have hmx3 := SlR.mx (s.ft 101 rfl)
  apply wp_skip
  apply pN
  apply wQ
  apply wp_block
  apply wQ
  obtain ⟨x5, hx5, hg⟩ := bind_some hg
  apply wL
  refine mv s rfl rfl fun a s => ?_
  refine mv s rfl rfl fun a s => ?_
  obtain ⟨p7, hep7, hpp7⟩ := SlR.elemX (s.ft 101 rfl) hx5
  refine qq s rfl (y_elem (sz := 1) (i := i_1) s rfl rfl underlying30 rfl hep7 rfl (lt_of_get hx5)) fun a s => ?_
  obtain ⟨hlq8, hmq8, csq8, hdq8, hcq8⟩ := hpp7
  obtain rfl := hdq8
  refine qq s rfl (y_ldp1 s rfl hlq8 hmq8 (hcq8 0 _ rfl) underlying3 rfl) fun a s => ?_
  refine mv s rfl rfl fun a s => ?_
  refine qq s rfl (y_eql s rfl rfl) fun a s => ?_
  apply wN
  refine c_dec s rfl (fun hc9 => ?_) (fun hc9 => ?_)
  ·replace hg := br_t hg hc9
   apply wR
   refine mv s rfl rfl fun a s => ?_
   refine asg s rfl rfl fun a s => ?_
   apply wN
   apply wp_ret
   refine p_inR ?_
   refine p_thenR ?_
   refine p_thenR ?_
   refine p_inR ?_
   refine p_thenR ?_
   obtain rfl := Option.some.inj hg
   refine fin1 (fn := Tryz.f66) s rfl (r_tmp s rfl) ?_
   exact rfl
  replace hg := br_f hg hc9
  apply wp_skip
  refine p_inN ?_
  apply pN
  apply wL
  refine mv s rfl rfl fun a s => ?_
  refine qq s rfl (y_addN (i := i_1) (j := 1) s rfl rfl (in64.2 (by omega))) fun a s => ?_
  refine asg s rfl rfl fun a s => ?_
  apply wN
  exact ⟨m1, Nat.lt_succ_self _, ⟨(i_1 + 1), hg, (s.sb rfl rfl rfl)⟩⟩
 replace hg := br_f hg hc2
 apply wp_exit
 refine p_then ?_
 refine p_then ?_
 refine p_in ?_
 apply pN
 apply wR
 refine asg s rfl rfl fun a s => ?_
 apply wN
 apply wp_ret
 obtain rfl := Option.some.inj hg
 refine fin1 (fn := Tryz.f66) s rfl (r_tmp s rfl) ?_
 exact rfl
set_option maxHeartbeats 400000 in
theorem c_r39_firsts (n : Nat) (M : Bs) (w0 : World) (hM : ∀ b, M b → b < w0.heap.size) (m_ : MRS) (Ap03 : Option Addr) (cp03 : Nat) (Ap04 : Option Addr) (cp04 : Nat) (Ap05 : Option Addr) (cp05 : Nat) (hp03 : SlR Rep.str M w0 Ap03 (m_.Vars).length cp03 (m_.Vars)) (hp04 : SlR REP M w0 Ap04 (m_.Rels).length cp04 (m_.Rels)) (hp05 : SlR RQeq M w0 Ap05 (m_.Cons).length cp05 (m_.Cons)) (r : (List Int)) (hg : r39_firsts n m_ = some r) :
    Calls Tryz.prog 47 [.agg #[.int .i64 (m_.Top), .int .i64 (m_.Index), .slice (Ap03) ((m_.Vars).length) (cp03), .slice (Ap04) ((m_.Rels).length) (cp04), .slice (Ap05) ((m_.Cons).length) (cp05)]].toArray w0 (Ret noB w0 fun v w => ∃ (Aa1 : Option Addr), ∃ (ca1 : Nat), v = .slice (Aa1) ((r).length) (ca1) ∧ (SlR (Rep.num .i64) M w Aa1 (r).length ca1 (r))) := by
 unfold r39_firsts at hg
 refine enter M noB func47 rfl rfl hM ?_
 intro a s
 replace s := s.es 101 hp03
 replace s := s.es 102 hp04
 replace s := s.es 103 hp05
 apply wR
 refine l_seq rfl (l_box (zs := [vI (m_.Top), vI (m_.Index), sl Ap03 (m_.Vars) cp03, sl Ap04 (m_.Rels) cp04, sl Ap05 (m_.Cons) cp05]) s 1000 rfl rfl rfl rfl fun b2 a w hb hK s => ?_)
 refine asg s rfl rfl fun a s => ?_
 apply wN
 apply wQ
 obtain ⟨r3, hr3, hg⟩ := bind_some hg
 apply wL
 refine qq s rfl (y_loadAll (kk := 1000) s rfl rfl underlying26 rfl rfl) fun a s => ?_
 refine l_seq rfl (l_call (cap := []) s rfl func64 rfl (by kernel_rfl) rfl rfl (c_r39_Occurrences n _ _ s.lt m_ (Ap03) (cp03) (Ap04) (cp04) (Ap05) (cp05) (s.ft 101 rfl) (s.ft 102 rfl) (s.ft 103 rfl) r3 hr3) fun v6 a w hK hp s => ?_)
 obtain ⟨Au7a1, cu7a1, rfl, hu7a1⟩ := hp
 replace s := s.ns 105 hu7a1
 refine asg s rfl rfl fun a s => ?_
 apply wN
 apply wR
 refine l_seq rfl (l_buildEmpty (sz := 1) s 1200 underlying30 rfl rfl rfl fun b9 a w hbb9 hK s => ?_)
 clear hbb9
 refine asg s rfl rfl fun a s => ?_
 apply wN
 apply wQ
 apply wR
 refine asg s rfl rfl fun a s => ?_
 apply wN
 apply wp_block
 replace s := s.add 108 (rdF (Rep.num .i64) ([]) ([])) (RdAll.nil _ _ _)
 replace s := s.al 107 108 rfl
 replace s := s.pk [(1000, 1000), (700106, 1200)] (by decide)
 refine c_loop (σ := Nat) (fun m1 a w => ∃ (out_10 : (List Int)) (i_14 : Nat) (A11 : Option Addr) (c12 : Nat) (cs13 : List Value), r39_firsts_L0 n r3 m1 out_10 i_14 = some r ∧ St (⟨Tryz.f47.ntmps, M, noB, w0⟩ : Ctx) [(3, sl Au7a1 (r3) cu7a1), (4, sl A11 (out_10) c12), (5, vI (((i_14 : Nat) : Int)))] [(700106, Ob.row (A11) ((out_10).length) (c12) 3 1 (cs13))] [(105, slF (Rep.num .i64) (Au7a1) ((r3).length) (cu7a1) (r3)), (107, rdF (Rep.num .i64) (cs13) (out_10))] a w) (fun m1 => m1) n ⟨([]), (0), (some ⟨b9, 0, none⟩), (0), ([]), hg, (s.sb rfl rfl rfl)⟩ ?_
 clear s a; rintro m1 a w ⟨out_10, i_14, A11, c12, cs13, hg, s⟩
 rcases m1 with _ | m1
 ·rw [r39_firsts_L0] at hg; cases hg
 rw [r39_firsts_L0] at hg
 apply wQ
 apply wR
 refine mv s rfl rfl fun a s => ?_
 refine mv s rfl rfl fun a s => ?_
 refine qq s rfl (y_lenSlice s rfl underlying30) fun a s => ?_
 refine qq s rfl (y_lssN (i := i_14) (j := ((r3).length)) s rfl rfl) fun a s => ?_
 apply wN
 refine c_dec s rfl (fun hc15 => ?_) (fun hc15 => ?_)
 ·replace hg := br_t hg hc15
  have hmx16 := SlR.mx (s.ft 105 rfl)
  apply wp_skip
  apply pN
  apply wQ
  apply wp_block
  apply wQ
  obtain ⟨x18, hx18, hg⟩ := bind_some hg
  obtain ⟨r20, hr20, hg⟩ := bind_some hg
  apply wL
  refine mv s rfl rfl fun a s => ?_
  refine mv s rfl rfl fun a s => ?_
  refine mv s rfl rfl fun a s => ?_
  obtain ⟨p23, hep23, hpp23⟩ := SlR.elemX (s.ft 105 rfl) hx18
  refine qq s rfl (y_elem (sz := 1) (i := i_14) s rfl rfl underlying30 rfl hep23 rfl (lt_of_get hx18)) fun a s => ?_
  obtain ⟨hlq24, hmq24, csq24, hdq24, hcq24⟩ := hpp23
  obtain rfl := hdq24
  refine qq s rfl (y_ldp1 s rfl hlq24 hmq24 (hcq24 0 _ rfl) underlying3 rfl) fun a s => ?_
  have hT := s
  replace hT := hT.fz (R := (Rep.num .i64)) (kk := 700106) [] 110 rfl rfl (hT.ft 107 rfl) rfl
  refine l_seq rfl (l_call (cap := []) s rfl func66 rfl (by kernel_rfl) rfl rfl (c_r39_place n _ _ hT.lt out_10 (A11) (c12) (hT.ft 110 rfl) x18 r20 hr20) fun v25 a w hK hp s => ?_)
  obtain rfl := hp
  refine qq s rfl (y_lss s rfl rfl) fun a s => ?_
  apply wN
  refine c_dec s rfl (fun hc27 => ?_) (fun hc27 => ?_)
  ·replace hg := br_t hg hc27
   obtain ⟨hk31, hg⟩ := chk_some hg
   apply wL
   refine mv s rfl rfl fun a s => ?_
   refine mv s rfl rfl fun a s => ?_
   refine mv s rfl rfl fun a s => ?_
   obtain ⟨p34, hep34, hpp34⟩ := SlR.elemX (s.ft 105 rfl) hx18
   refine qq s rfl (y_elem (sz := 1) (i := i_14) s rfl rfl underlying30 rfl hep34 rfl (lt_of_get hx18)) fun a s => ?_
   obtain ⟨hlq35, hmq35, csq35, hdq35, hcq35⟩ := hpp34
   obtain rfl := hdq35
   refine qq s rfl (y_ldp1 s rfl hlq35 hmq35 (hcq35 0 _ rfl) underlying3 rfl) fun a s => ?_
   refine l_seq rfl (l_buildDense (sz := 1) s 1705 rfl rfl rfl underlying30 rfl rfl rfl rfl rfl rfl rfl fun b36 a w hbb36 hK s => ?_)
   clear hbb36
   replace s := s.add 113 (rdF (Rep.num .i64) (cellsOfL [vI x18]) ([x18])) (RdAll.cons (by exact rfl) (RdAll.nil _ _ _))
   have hs38 := row_src (s.wd.holds 1705 _ rfl) (RdAll.one (s.ft 113 rfl))
   refine l_seq rfl (l_append (sz := 1) (by_ := 8) (N := (out_10 ++ [x18]).length) (ys := cs13 ++ (cellsOfL [vI x18])) s 700106 rfl rfl rfl underlying30 rfl rfl rfl rfl rfl hs38 (by simp) rfl (by have hr := hk31; clear hg; first | omega | (simp only [List.length_append, List.length_cons, List.length_nil] at hr ⊢; omega) | (simp at hr ⊢; omega)) (by have hr := hk31; clear hg; first | omega | (simp only [List.length_append, List.length_cons, List.length_nil] at hr ⊢; omega) | (simp at hr ⊢; omega)) rfl fun Aq37 cq37 a w hA hK s => ?_)
   replace s := s.add 114 (rdF (Rep.num .i64) (cs13 ++ (cellsOfL [vI x18])) (out_10 ++ [x18])) (RdAll.append (s.ft 107 rfl) (s.ft 113 rfl))
   refine asg s rfl rfl fun a s => ?_
   apply wO
   refine p_inN ?_
   apply pN
   apply wL
   refine mv s rfl rfl fun a s => ?_
   refine qq s rfl (y_addN (i := i_14) (j := 1) s rfl rfl (in64.2 (by omega))) fun a s => ?_
   refine asg s rfl rfl fun a s => ?_
   apply wN
   replace s := s.al 107 114 rfl
   exact ⟨m1, Nat.lt_succ_self _, ⟨(out_10 ++ [x18]), (i_14 + 1), (Aq37), (cq37), (cs13 ++ (cellsOfL [vI x18])), hg, (s.sb rfl rfl rfl)⟩⟩
  replace hg := br_f hg hc27
  apply wp_skip
  refine p_inN ?_
  apply pN
  apply wL
  refine mv s rfl rfl fun a s => ?_
  refine qq s rfl (y_addN (i := i_14) (j := 1) s rfl rfl (in64.2 (by omega))) fun a s => ?_
  refine asg s rfl rfl fun a s => ?_
  apply wN
  replace s := s.al 107 107 rfl
  exact ⟨m1, Nat.lt_succ_self _, ⟨(out_10), (i_14 + 1), (A11), (c12), (cs13), hg, (s.sb rfl rfl rfl)⟩⟩
 replace hg := br_f hg hc15
 apply wp_exit
 refine p_then ?_
 refine p_then ?_
 refine p_in ?_
 apply pN
 apply wR
 refine mv s rfl rfl fun a s => ?_
 refine asg s rfl rfl fun a s => ?_
 apply wN
 apply wp_ret
 obtain rfl := Option.some.inj hg
 refine fin1 (fn := Tryz.f47) s rfl (r_tmp s rfl) ?_
 exact ⟨(A11), (c12), rfl, (s.rowOut (R := (Rep.num .i64)) (kk := 700106) rfl rfl (s.ft 107 rfl))⟩
set_option maxHeartbeats 400000 in
theorem c_r39_Check (n : Nat) (M : Bs) (w0 : World) (hM : ∀ b, M b → b < w0.heap.size) (m_ : MRS) (Ap03 : Option Addr) (cp03 : Nat) (Ap04 : Option Addr) (cp04 : Nat) (Ap05 : Option Addr) (cp05 : Nat) (hp03 : SlR Rep.str M w0 Ap03 (m_.Vars).length cp03 (m_.Vars)) (hp04 : SlR REP M w0 Ap04 (m_.Rels).length cp04 (m_.Rels)) (hp05 : SlR RQeq M w0 Ap05 (m_.Cons).length cp05 (m_.Cons)) (r : Int) (hg : r39_Check n m_ = some r) :
    Calls Tryz.prog 24 [.agg #[.int .i64 (m_.Top), .int .i64 (m_.Index), .slice (Ap03) ((m_.Vars).length) (cp03), .slice (Ap04) ((m_.Rels).length) (cp04), .slice (Ap05) ((m_.Cons).length) (cp05)]].toArray w0 (Ret noB w0 fun v w => v = .int .i64 (r)) := by
 unfold r39_Check at hg
 refine enter M noB func24 rfl rfl hM ?_
 intro a s
 replace s := s.es 101 hp03
 replace s := s.es 102 hp04
 replace s := s.es 103 hp05
 apply wR
 refine l_seq rfl (l_box (zs := [vI (m_.Top), vI (m_.Index), sl Ap03 (m_.Vars) cp03, sl Ap04 (m_.Rels) cp04, sl Ap05 (m_.Cons) cp05]) s 1000 rfl rfl rfl rfl fun b2 a w hb hK s => ?_)
 refine asg s rfl rfl fun a s => ?_
 apply wN
 apply wQ
 apply wQ
 obtain ⟨r3, hr3, hg⟩ := bind_some hg
 apply wL
 refine qq s rfl (y_loadAll (kk := 1000) s rfl rfl underlying26 rfl rfl) fun a s => ?_
 refine l_seq rfl (l_call (cap := []) s rfl func46 rfl (by kernel_rfl) rfl rfl (c_r39_Loose n _ _ s.lt m_ (Ap03) (cp03) (Ap04) (cp04) (Ap05) (cp05) (s.ft 101 rfl) (s.ft 102 rfl) (s.ft 103 rfl) r3 hr3) fun v6 a w hK hp s => ?_)
 obtain rfl := hp
 refine asg s rfl rfl fun a s => ?_
 apply wN
 apply wR
 refine mv s rfl rfl fun a s => ?_
 refine qq s rfl (y_neq s rfl rfl) fun a s => ?_
 apply wN
 refine c_dec s rfl (fun hc8 => ?_) (fun hc8 => ?_)
 ·replace hg := br_t hg hc8
  apply wR
  refine mv s rfl rfl fun a s => ?_
  refine asg s rfl rfl fun a s => ?_
  apply wN
  apply wp_ret
  refine p_thenR ?_
  obtain rfl := Option.some.inj hg
  refine fin1 (fn := Tryz.f24) s rfl (r_tmp s rfl) ?_
  exact rfl
 replace hg := br_f hg hc8
 apply wp_skip
 apply pN
 apply wQ
 obtain ⟨r9, hr9, hg⟩ := bind_some hg
 apply wL
 refine qq s rfl (y_loadAll (kk := 1000) s rfl rfl underlying26 rfl rfl) fun a s => ?_
 refine l_seq rfl (l_call (cap := []) s rfl func47 rfl (by kernel_rfl) rfl rfl (c_r39_firsts n _ _ s.lt m_ (Ap03) (cp03) (Ap04) (cp04) (Ap05) (cp05) (s.ft 101 rfl) (s.ft 102 rfl) (s.ft 103 rfl) r9 hr9) fun v12 a w hK hp s => ?_)
 obtain ⟨Au13a1, cu13a1, rfl, hu13a1⟩ := hp
 replace s := s.ns 105 hu13a1
 refine asg s rfl rfl fun a s => ?_
 apply wN
 apply wQ
 apply wR
 refine mv s rfl rfl fun a s => ?_
 refine qq s rfl (y_lenSlice s rfl underlying30) fun a s => ?_
 refine qq s rfl (y_boxField (o' := 2) s rfl underlying26 rfl rfl rfl) fun a s => ?_
 refine qq s rfl (y_loadBox1 (kk := 1000) s rfl rfl rfl underlying22 rfl) fun a s => ?_
 refine qq s rfl (y_lenSlice s rfl underlying22) fun a s => ?_
 refine qq s rfl (y_neqN (i := ((r9).length)) (j := ((m_.Vars).length)) s rfl rfl) fun a s => ?_
 apply wN
 refine c_dec s rfl (fun hc14 => ?_) (fun hc14 => ?_)
 ·replace hg := br_t hg hc14
  apply wR
  refine asg s rfl rfl fun a s => ?_
  apply wN
  apply wp_ret
  refine p_thenR ?_
  obtain rfl := Option.some.inj hg
  refine fin1 (fn := Tryz.f24) s rfl (r_tmp s rfl) ?_
  exact rfl
 replace hg := br_f hg hc14
 apply wp_skip
 apply pN
 apply wQ
 apply wR
 refine asg s rfl rfl fun a s => ?_
 apply wN
 apply wp_block
 refine c_loop (σ := Nat) (fun m1 a w => ∃ (i_15 : Nat), r39_Check_L0 n r9 m1 i_15 = some r ∧ St (⟨Tryz.f24.ntmps, M, noB, w0⟩ : Ctx) [(4, sl Au13a1 (r9) cu13a1), (5, vI (((i_15 : Nat) : Int)))] [] [(105, slF (Rep.num .i64) (Au13a1) ((r9).length) (cu13a1) (r9))] a w) (fun m1 => m1) n ⟨(0), hg, (s.sb rfl rfl rfl)⟩ ?_
 clear s a; rintro m1 a w ⟨i_15, hg, s⟩
 rcases m1 with _ | m1
 ·rw [r39_Check_L0] at hg; cases hg
 rw [r39_Check_L0] at hg
 apply wQ
 apply wR
 refine mv s rfl rfl fun a s => ?_
 refine mv s rfl rfl fun a s => ?_
 refine qq s rfl (y_lenSlice s rfl underlying30) fun a s => ?_
 refine qq s rfl (y_lssN (i := i_15) (j := ((r9).length)) s rfl rfl) fun a s => ?_
 apply wN
 refine c_dec s rfl (fun hc16 => ?_) (fun hc16 => ?_)
 ·replace hg := br_t hg hc16
  have hmx17 := SlR.mx (s.ft 105 rfl)
  apply wp_skip
  apply pN
  apply wQ
  apply wp_block
  apply wQ
  obtain ⟨x19, hx19, hg⟩ := bind_some hg
  apply wL
  refine mv s rfl rfl fun a s => ?_
  refine mv s rfl rfl fun a s => ?_
  obtain ⟨p21, hep21, hpp21⟩ := SlR.elemX (s.ft 105 rfl) hx19
  refine qq s rfl (y_elem (sz := 1) (i := i_15) s rfl rfl underlying30 rfl hep21 rfl (lt_of_get hx19)) fun a s => ?_
  obtain ⟨hlq22, hmq22, csq22, hdq22, hcq22⟩ := hpp21
  obtain rfl := hdq22
  refine qq s rfl (y_ldp1 s rfl hlq22 hmq22 (hcq22 0 _ rfl) underlying3 rfl) fun a s => ?_
  refine mv s rfl rfl fun a s => ?_
  refine qq s rfl (y_neq s rfl rfl) fun a s => ?_
  apply wN
  refine c_dec s rfl (fun hc23 => ?_) (fun hc23 => ?_)
  ·replace hg := br_t hg hc23
   apply wR
   refine asg s rfl rfl fun a s => ?_
   apply wN
   apply wp_ret
   refine p_inR ?_
   refine p_thenR ?_
   refine p_thenR ?_
   refine p_inR ?_
   refine p_thenR ?_
   obtain rfl := Option.some.inj hg
   refine fin1 (fn := Tryz.f24) s rfl (r_tmp s rfl) ?_
   exact rfl
  replace hg := br_f hg hc23
  apply wp_skip
  refine p_inN ?_
  apply pN
  apply wL
  refine mv s rfl rfl fun a s => ?_
  refine qq s rfl (y_addN (i := i_15) (j := 1) s rfl rfl (in64.2 (by omega))) fun a s => ?_
  refine asg s rfl rfl fun a s => ?_
  apply wN
  exact ⟨m1, Nat.lt_succ_self _, ⟨(i_15 + 1), hg, (s.sb rfl rfl rfl)⟩⟩
 replace hg := br_f hg hc16
 apply wp_exit
 refine p_then ?_
 refine p_then ?_
 refine p_in ?_
 apply pN
 apply wR
 refine asg s rfl rfl fun a s => ?_
 apply wN
 apply wp_ret
 obtain rfl := Option.some.inj hg
 refine fin1 (fn := Tryz.f24) s rfl (r_tmp s rfl) ?_
 exact rfl
set_option maxHeartbeats 400000 in
theorem c_r39_Light (n : Nat) (M : Bs) (w0 : World) (hM : ∀ b, M b → b < w0.heap.size) (m_ : MRS) (Ap03 : Option Addr) (cp03 : Nat) (Ap04 : Option Addr) (cp04 : Nat) (Ap05 : Option Addr) (cp05 : Nat) (hp03 : SlR Rep.str M w0 Ap03 (m_.Vars).length cp03 (m_.Vars)) (hp04 : SlR REP M w0 Ap04 (m_.Rels).length cp04 (m_.Rels)) (hp05 : SlR RQeq M w0 Ap05 (m_.Cons).length cp05 (m_.Cons)) (most_ : Int) (r : Bool) (hg : r39_Light n m_ most_ = some r) :
    Calls Tryz.prog 25 [.agg #[.int .i64 (m_.Top), .int .i64 (m_.Index), .slice (Ap03) ((m_.Vars).length) (cp03), .slice (Ap04) ((m_.Rels).length) (cp04), .slice (Ap05) ((m_.Cons).length) (cp05)], .int .i64 (most_)].toArray w0 (Ret noB w0 fun v w => v = .bool (r)) := by
 unfold r39_Light at hg
 refine enter M noB func25 rfl rfl hM ?_
 intro a s
 replace s := s.es 101 hp03
 replace s := s.es 102 hp04
 replace s := s.es 103 hp05
 apply wR
 refine l_seq rfl (l_box (zs := [vI (m_.Top), vI (m_.Index), sl Ap03 (m_.Vars) cp03, sl Ap04 (m_.Rels) cp04, sl Ap05 (m_.Cons) cp05]) s 1000 rfl rfl rfl rfl fun b2 a w hb hK s => ?_)
 refine asg s rfl rfl fun a s => ?_
 apply wN
 apply wQ
 apply wQ
 obtain ⟨k3, hg, hk3⟩ := jn_some hg
 refine c_post (fun a w => ∃ (t_4 : Bool), k3 t_4 = some r ∧ St (⟨Tryz.f25.ntmps, M, noB, w0⟩ : Ctx) [(2, vP b2 0), (23, .bool (t_4))] [(1000, Ob.box b2 [vI (m_.Top), vI (m_.Index), sl Ap03 (m_.Vars) cp03, sl Ap04 (m_.Rels) cp04, sl Ap05 (m_.Cons) cp05] 26)] [(101, slF Rep.str (Ap03) ((m_.Vars).length) (cp03) (m_.Vars)), (102, slF REP (Ap04) ((m_.Rels).length) (cp04) (m_.Rels)), (103, slF RQeq (Ap05) ((m_.Cons).length) (cp05) (m_.Cons))] a w) ?_ ?_
 ·rcases Decidable.em (most_ < (((m_.Rels).length : Nat) : Int)) with hs5 | hs5
  ·have hs5e := decide_eq_true hs5
   replace hg := br_t hg hs5
   apply wL
   refine qq s rfl (y_boxField (o' := 3) s rfl underlying26 rfl rfl rfl) fun a s => ?_
   refine qq s rfl (y_loadBox1 (kk := 1000) s rfl rfl rfl underlying23 rfl) fun a s => ?_
   refine qq s rfl (y_lenSlice s rfl underlying23) fun a s => ?_
   refine mv s rfl rfl fun a s => ?_
   refine qq s rfl (yl_b (y_gtr s rfl rfl) hs5e) fun a s => ?_
   refine mv s rfl rfl fun a s => ?_
   refine gn s rfl fun a s => ?_
   refine gn s rfl fun a s => ?_
   refine gn s rfl fun a s => ?_
   refine gn s rfl fun a s => ?_
   refine gn s rfl fun a s => ?_
   refine qq s rfl (y_pick_t s rfl rfl) fun a s => ?_
   refine mv s rfl rfl fun a s => ?_
   refine gn s rfl fun a s => ?_
   refine gn s rfl fun a s => ?_
   refine gn s rfl fun a s => ?_
   refine gn s rfl fun a s => ?_
   refine qq s rfl (y_pick_t s rfl rfl) fun a s => ?_
   apply wN
   exact ⟨(true), hg, (s.sb rfl rfl rfl)⟩
  have hs5e := decide_eq_false hs5
  replace hg := br_f hg hs5
  rcases Decidable.em (most_ < (((m_.Cons).length : Nat) : Int)) with hs6 | hs6
  ·have hs6e := decide_eq_true hs6
   replace hg := br_t hg hs6
   apply wL
   refine qq s rfl (y_boxField (o' := 3) s rfl underlying26 rfl rfl rfl) fun a s => ?_
   refine qq s rfl (y_loadBox1 (kk := 1000) s rfl rfl rfl underlying23 rfl) fun a s => ?_
   refine qq s rfl (y_lenSlice s rfl underlying23) fun a s => ?_
   refine mv s rfl rfl fun a s => ?_
   refine qq s rfl (yl_b (y_gtr s rfl rfl) hs5e) fun a s => ?_
   refine mv s rfl rfl fun a s => ?_
   refine gy s rfl (y_boxField (o' := 4) s rfl underlying26 rfl rfl rfl) fun a s => ?_
   refine gy s rfl (y_loadBox1 (kk := 1000) s rfl rfl rfl underlying24 rfl) fun a s => ?_
   refine gy s rfl (y_lenSlice s rfl underlying24) fun a s => ?_
   refine gm s rfl rfl fun a s => ?_
   refine gy s rfl (yl_b (y_gtr s rfl rfl) hs6e) fun a s => ?_
   refine qq s rfl (y_pick_f s rfl rfl) fun a s => ?_
   refine mv s rfl rfl fun a s => ?_
   refine gn s rfl fun a s => ?_
   refine gn s rfl fun a s => ?_
   refine gn s rfl fun a s => ?_
   refine gn s rfl fun a s => ?_
   refine qq s rfl (y_pick_t s rfl rfl) fun a s => ?_
   apply wN
   exact ⟨(true), hg, (s.sb rfl rfl rfl)⟩
  have hs6e := decide_eq_false hs6
  replace hg := br_f hg hs6
  apply wL
  refine qq s rfl (y_boxField (o' := 3) s rfl underlying26 rfl rfl rfl) fun a s => ?_
  refine qq s rfl (y_loadBox1 (kk := 1000) s rfl rfl rfl underlying23 rfl) fun a s => ?_
  refine qq s rfl (y_lenSlice s rfl underlying23) fun a s => ?_
  refine mv s rfl rfl fun a s => ?_
  refine qq s rfl (yl_b (y_gtr s rfl rfl) hs5e) fun a s => ?_
  refine mv s rfl rfl fun a s => ?_
  refine gy s rfl (y_boxField (o' := 4) s rfl underlying26 rfl rfl rfl) fun a s => ?_
  refine gy s rfl (y_loadBox1 (kk := 1000) s rfl rfl rfl underlying24 rfl) fun a s => ?_
  refine gy s rfl (y_lenSlice s rfl underlying24) fun a s => ?_
  refine gm s rfl rfl fun a s => ?_
  refine gy s rfl (yl_b (y_gtr s rfl rfl) hs6e) fun a s => ?_
  refine qq s rfl (y_pick_f s rfl rfl) fun a s => ?_
  refine mv s rfl rfl fun a s => ?_
  refine gy s rfl (y_boxField (o' := 2) s rfl underlying26 rfl rfl rfl) fun a s => ?_
  refine gy s rfl (y_loadBox1 (kk := 1000) s rfl rfl rfl underlying22 rfl) fun a s => ?_
  refine gy s rfl (y_lenSlice s rfl underlying22) fun a s => ?_
  refine gy s rfl (y_gtrN (i := ((m_.Vars).length)) (j := 300) s rfl rfl) fun a s => ?_
  refine qq s rfl (y_pick_f s rfl rfl) fun a s => ?_
  apply wN
  exact ⟨(decide ((300 : Nat) < ((m_.Vars).length))), hg, (s.sb rfl rfl rfl)⟩
 clear s a; rintro a w ⟨t_4, hg, s⟩
 subst hk3
 refine c_cond s rfl (fun hc7 => ?_) (fun hc7 => ?_)
 ·replace hg := br_t hg hc7
  apply wR
  refine asg s rfl rfl fun a s => ?_
  apply wN
  apply wp_ret
  refine p_thenR ?_
  obtain rfl := Option.some.inj hg
  refine fin1 (fn := Tryz.f25) s rfl (r_tmp s rfl) ?_
  exact rfl
 replace hg := br_n hg hc7
 apply wp_skip
 apply pN
 apply wQ
 apply wR
 refine asg s rfl rfl fun a s => ?_
 apply wN
 apply wp_block
 refine c_loop (σ := Nat) (fun m1 a w => ∃ (i_8 : Nat), r39_Light_L0 n m_ m1 i_8 = some r ∧ St (⟨Tryz.f25.ntmps, M, noB, w0⟩ : Ctx) [(2, vP b2 0), (5, vI (((i_8 : Nat) : Int)))] [(1000, Ob.box b2 [vI (m_.Top), vI (m_.Index), sl Ap03 (m_.Vars) cp03, sl Ap04 (m_.Rels) cp04, sl Ap05 (m_.Cons) cp05] 26)] [(101, slF Rep.str (Ap03) ((m_.Vars).length) (cp03) (m_.Vars)), (102, slF REP (Ap04) ((m_.Rels).length) (cp04) (m_.Rels)), (103, slF RQeq (Ap05) ((m_.Cons).length) (cp05) (m_.Cons))] a w) (fun m1 => m1) n ⟨(0), hg, (s.sb rfl rfl rfl)⟩ ?_
 clear s a; rintro m1 a w ⟨i_8, hg, s⟩
 rcases m1 with _ | m1
 ·rw [r39_Light_L0] at hg; cases hg
 rw [r39_Light_L0] at hg
 apply wQ
 apply wR
 refine mv s rfl rfl fun a s => ?_
 refine qq s rfl (y_boxField (o' := 3) s rfl underlying26 rfl rfl rfl) fun a s => ?_
 refine qq s rfl (y_loadBox1 (kk := 1000) s rfl rfl rfl underlying23 rfl) fun a s => ?_
 refine qq s rfl (y_lenSlice s rfl underlying23) fun a s => ?_
 refine qq s rfl (y_lssN (i := i_8) (j := ((m_.Rels).length)) s rfl rfl) fun a s => ?_
 apply wN
 refine c_dec s rfl (fun hc9 => ?_) (fun hc9 => ?_)
 ·replace hg := br_t hg hc9
  have hmx10 := SlR.mx (s.ft 102 rfl)
  apply wp_skip
  apply pN
  apply wQ
  apply wp_block
  apply wQ
  obtain ⟨x12, hx12, hg⟩ := bind_some hg
  apply wL
  refine qq s rfl (y_boxField (o' := 3) s rfl underlying26 rfl rfl rfl) fun a s => ?_
  refine qq s rfl (y_loadBox1 (kk := 1000) s rfl rfl rfl underlying23 rfl) fun a s => ?_
  refine mv s rfl rfl fun a s => ?_
  obtain ⟨p14, hep14, hpp14⟩ := SlR.elemX (s.ft 102 rfl) hx12
  refine qq s rfl (y_elem (sz := 3) (i := i_8) s rfl rfl underlying23 rfl hep14 rfl (lt_of_get hx12)) fun a s => ?_
  refine qq s rfl (y_ptrField (o' := 2) s rfl underlying43 rfl rfl rfl) fun a s => ?_
  obtain ⟨hlq15, hmq15, csq15, hdq15, hcq15⟩ := hpp14
  obtain ⟨Aq153, cq153, rfl, lq151, hq153⟩ := REP.open hdq15
  replace s := s.ns 105 hq153
  refine qq s rfl (y_ldp1 s rfl hlq15 hmq15 (hcq15 2 _ rfl) underlying41 rfl) fun a s => ?_
  refine qq s rfl (y_lenSlice s rfl underlying41) fun a s => ?_
  refine qq s rfl (y_gtrN (i := ((x12.Args).length)) (j := 10) s rfl rfl) fun a s => ?_
  apply wN
  refine c_dec s rfl (fun hc16 => ?_) (fun hc16 => ?_)
  ·replace hg := br_t hg hc16
   have hmx17 := SlR.mx (s.ft 105 rfl)
   apply wR
   refine asg s rfl rfl fun a s => ?_
   apply wN
   apply wp_ret
   refine p_inR ?_
   refine p_thenR ?_
   refine p_thenR ?_
   refine p_inR ?_
   refine p_thenR ?_
   obtain rfl := Option.some.inj hg
   refine fin1 (fn := Tryz.f25) s rfl (r_tmp s rfl) ?_
   exact rfl
  replace hg := br_f hg hc16
  apply wp_skip
  refine p_inN ?_
  apply pN
  apply wL
  refine mv s rfl rfl fun a s => ?_
  refine qq s rfl (y_addN (i := i_8) (j := 1) s rfl rfl (in64.2 (by omega))) fun a s => ?_
  refine asg s rfl rfl fun a s => ?_
  apply wN
  exact ⟨m1, Nat.lt_succ_self _, ⟨(i_8 + 1), hg, (s.sb rfl rfl rfl)⟩⟩
 replace hg := br_f hg hc9
 apply wp_exit
 refine p_then ?_
 refine p_then ?_
 refine p_in ?_
 apply pN
 apply wR
 refine asg s rfl rfl fun a s => ?_
 apply wN
 apply wp_ret
 obtain rfl := Option.some.inj hg
 refine fin1 (fn := Tryz.f25) s rfl (r_tmp s rfl) ?_
 exact rfl
set_option maxHeartbeats 400000 in
theorem c_law41_valid (n : Nat) (M : Bs) (w0 : World) (hM : ∀ b, M b → b < w0.heap.size) (m_ : MRS) (Ap03 : Option Addr) (cp03 : Nat) (Ap04 : Option Addr) (cp04 : Nat) (Ap05 : Option Addr) (cp05 : Nat) (hp03 : SlR Rep.str M w0 Ap03 (m_.Vars).length cp03 (m_.Vars)) (hp04 : SlR REP M w0 Ap04 (m_.Rels).length cp04 (m_.Rels)) (hp05 : SlR RQeq M w0 Ap05 (m_.Cons).length cp05 (m_.Cons)) (r : Bool) (hg : law41_valid n m_ = some r) :
    Calls Tryz.prog 9 [.agg #[.int .i64 (m_.Top), .int .i64 (m_.Index), .slice (Ap03) ((m_.Vars).length) (cp03), .slice (Ap04) ((m_.Rels).length) (cp04), .slice (Ap05) ((m_.Cons).length) (cp05)]].toArray w0 (Ret noB w0 fun v w => v = .bool (r)) := by
 unfold law41_valid at hg
 refine enter M noB func9 rfl rfl hM ?_
 intro a s
 replace s := s.es 101 hp03
 replace s := s.es 102 hp04
 replace s := s.es 103 hp05
 apply wR
 refine l_seq rfl (l_box (zs := [vI (m_.Top), vI (m_.Index), sl Ap03 (m_.Vars) cp03, sl Ap04 (m_.Rels) cp04, sl Ap05 (m_.Cons) cp05]) s 1000 rfl rfl rfl rfl fun b2 a w hb hK s => ?_)
 refine asg s rfl rfl fun a s => ?_
 apply wN
 apply wQ
 obtain ⟨r3, hr3, hg⟩ := bind_some hg
 rcases Bool.eq_false_or_eq_true (r3) with hs6 | hs6
 ·replace hg := br_t hg hs6
  obtain ⟨r7, hr7, hg⟩ := bind_some hg
  apply wL
  refine qq s rfl (y_loadAll (kk := 1000) s rfl rfl underlying26 rfl rfl) fun a s => ?_
  refine l_seq rfl (l_call (cap := []) s rfl func25 rfl (by kernel_rfl) rfl rfl (c_r39_Light n _ _ s.lt m_ (Ap03) (cp03) (Ap04) (cp04) (Ap05) (cp05) (s.ft 101 rfl) (s.ft 102 rfl) (s.ft 103 rfl) 8 r3 hr3) fun v10 a w hK hp s => ?_)
  obtain rfl := hp.trans (congrArg Value.bool hs6)
  refine mv s rfl rfl fun a s => ?_
  refine gy s rfl (y_loadAll (kk := 1000) s rfl rfl underlying26 rfl rfl) fun a s => ?_
  refine gl s rfl (l_call (cap := []) s rfl func24 rfl (by kernel_rfl) rfl rfl (c_r39_Check n _ _ s.lt m_ (Ap03) (cp03) (Ap04) (cp04) (Ap05) (cp05) (s.ft 101 rfl) (s.ft 102 rfl) (s.ft 103 rfl) r7 hr7) fun v12 a w hK hp s => ?_)
  obtain rfl := hp
  refine gy s rfl (y_eql s rfl rfl) fun a s => ?_
  refine qq s rfl (y_pick_t s rfl rfl) fun a s => ?_
  refine asg s rfl rfl fun a s => ?_
  apply wN
  apply wp_ret
  obtain rfl := Option.some.inj hg
  refine fin1 (fn := Tryz.f9) s rfl (r_tmp s rfl) ?_
  exact rfl
 replace hg := br_n hg hs6
 apply wL
 refine qq s rfl (y_loadAll (kk := 1000) s rfl rfl underlying26 rfl rfl) fun a s => ?_
 refine l_seq rfl (l_call (cap := []) s rfl func25 rfl (by kernel_rfl) rfl rfl (c_r39_Light n _ _ s.lt m_ (Ap03) (cp03) (Ap04) (cp04) (Ap05) (cp05) (s.ft 101 rfl) (s.ft 102 rfl) (s.ft 103 rfl) 8 r3 hr3) fun v14 a w hK hp s => ?_)
 obtain rfl := hp.trans (congrArg Value.bool hs6)
 refine mv s rfl rfl fun a s => ?_
 refine gn s rfl fun a s => ?_
 refine gn s rfl fun a s => ?_
 refine gn s rfl fun a s => ?_
 refine qq s rfl (y_pick_f s rfl rfl) fun a s => ?_
 refine asg s rfl rfl fun a s => ?_
 apply wN
 apply wp_ret
 obtain rfl := Option.some.inj hg
 refine fin1 (fn := Tryz.f9) s rfl (r_tmp s rfl) ?_
 exact rfl
set_option maxHeartbeats 400000 in
theorem c_r41_Same (n : Nat) (M : Bs) (w0 : World) (hM : ∀ b, M b → b < w0.heap.size) (a_ : (List Int)) (Ap01 : Option Addr) (cp01 : Nat) (hp01 : SlR (Rep.num .i64) M w0 Ap01 (a_).length cp01 (a_)) (b_ : (List Int)) (Ap11 : Option Addr) (cp11 : Nat) (hp11 : SlR (Rep.num .i64) M w0 Ap11 (b_).length cp11 (b_)) (r : Bool) (hg : r41_Same n a_ b_ = some r) :
    Calls Tryz.prog 11 [.slice (Ap01) ((a_).length) (cp01), .slice (Ap11) ((b_).length) (cp11)].toArray w0 (Ret noB w0 fun v w => v = .bool (r)) := by
 unfold r41_Same at hg
 refine enter M noB func11 rfl rfl hM ?_
 intro a s
 replace s := s.es 101 hp01
 replace s := s.es 102 hp11
 apply wR
 refine asg s rfl rfl fun a s => ?_
 apply wN
 apply wQ
 apply wR
 refine mv s rfl rfl fun a s => ?_
 refine qq s rfl (y_lenSlice s rfl underlying30) fun a s => ?_
 refine mv s rfl rfl fun a s => ?_
 refine qq s rfl (y_lenSlice s rfl underlying30) fun a s => ?_
 refine qq s rfl (y_neqN (i := ((a_).length)) (j := ((b_).length)) s rfl rfl) fun a s => ?_
 apply wN
 refine c_dec s rfl (fun hc1 => ?_) (fun hc1 => ?_)
 ·replace hg := br_t hg hc1
  apply wR
  refine asg s rfl rfl fun a s => ?_
  apply wN
  apply wp_ret
  refine p_thenR ?_
  obtain rfl := Option.some.inj hg
  refine fin1 (fn := Tryz.f11) s rfl (r_tmp s rfl) ?_
  exact rfl
 replace hg := br_f hg hc1
 apply wp_skip
 apply pN
 apply wQ
 apply wR
 refine asg s rfl rfl fun a s => ?_
 apply wN
 apply wp_block
 refine c_loop (σ := Nat) (fun m1 a w => ∃ (i_2 : Nat), r41_Same_L0 n a_ b_ m1 i_2 = some r ∧ St (⟨Tryz.f11.ntmps, M, noB, w0⟩ : Ctx) [(0, sl Ap01 (a_) cp01), (1, sl Ap11 (b_) cp11), (5, vI (((i_2 : Nat) : Int)))] [] [(101, slF (Rep.num .i64) (Ap01) ((a_).length) (cp01) (a_)), (102, slF (Rep.num .i64) (Ap11) ((b_).length) (cp11) (b_))] a w) (fun m1 => m1) n ⟨(0), hg, (s.sb rfl rfl rfl)⟩ ?_
 clear s a; rintro m1 a w ⟨i_2, hg, s⟩
 rcases m1 with _ | m1
 ·rw [r41_Same_L0] at hg; cases hg
 rw [r41_Same_L0] at hg
 apply wQ
 apply wR
 refine mv s rfl rfl fun a s => ?_
 refine mv s rfl rfl fun a s => ?_
 refine qq s rfl (y_lenSlice s rfl underlying30) fun a s => ?_
 refine qq s rfl (y_lssN (i := i_2) (j := ((a_).length)) s rfl rfl) fun a s => ?_
 apply wN
 refine c_dec s rfl (fun hc3 => ?_) (fun hc3 => ?_)
 ·replace hg := br_t hg hc3
  have hmx4 := SlR.mx (s.ft 101 rfl)
  apply wp_skip
  apply pN
  apply wQ
  apply wp_block
  apply wQ
  obtain ⟨x6, hx6, hg⟩ := bind_some hg
  obtain ⟨x9, hx9, hg⟩ := bind_some hg
  refine d_plan s [] [(0, some 0), (1, some 0), (2, some 0), (3, some 0), (4, some 0), (5, some 0), (6, some 0), (7, some 0), (8, some 0)] rfl (by kernel_rfl) (by kernel_rfl) rfl ?_; clear s; intro wr hZ s; have hR := s.wd
  refine qt s hR rfl (y_move s rfl) fun a s => ?_
  refine qt s hR rfl (y_move s rfl) fun a s => ?_
  obtain ⟨p11, hep11, hpp11⟩ := SlR.elemX (s.ft 101 rfl) hx6
  refine qt s hR rfl (y_elem (sz := 1) (i := i_2) s rfl rfl underlying30 rfl hep11 rfl (lt_of_get hx6)) fun a s => ?_
  obtain ⟨hlq12, hmq12, csq12, hdq12, hcq12⟩ := hpp11
  obtain rfl := hdq12
  refine qt s hR rfl (y_ldp1 s rfl hlq12 hmq12 (hcq12 0 _ rfl) underlying3 rfl) fun a s => ?_
  refine qt s hR rfl (y_move s rfl) fun a s => ?_
  refine qt s hR rfl (y_move s rfl) fun a s => ?_
  obtain ⟨p13, hep13, hpp13⟩ := SlR.elemX (s.ft 102 rfl) hx9
  refine qt s hR rfl (y_elem (sz := 1) (i := i_2) s rfl rfl underlying30 rfl hep13 rfl (lt_of_get hx9)) fun a s => ?_
  obtain ⟨hlq14, hmq14, csq14, hdq14, hcq14⟩ := hpp13
  obtain rfl := hdq14
  refine qt s hR rfl (y_ldp1 s rfl hlq14 hmq14 (hcq14 0 _ rfl) underlying3 rfl) fun a s => ?_
  refine qt s hR rfl (y_neq s rfl rfl) fun a s => ?_
  clear hR hZ
  apply pN
  refine c_dec s rfl (fun hc15 => ?_) (fun hc15 => ?_)
  ·replace hg := br_t hg hc15
   apply wR
   refine asg s rfl rfl fun a s => ?_
   apply wN
   apply wp_ret
   refine p_inR ?_
   refine p_thenR ?_
   refine p_thenR ?_
   refine p_inR ?_
   refine p_thenR ?_
   obtain rfl := Option.some.inj hg
   refine fin1 (fn := Tryz.f11) s rfl (r_tmp s rfl) ?_
   exact rfl
  replace hg := br_f hg hc15
  apply wp_skip
  refine p_inN ?_
  apply pN
  apply wL
  refine mv s rfl rfl fun a s => ?_
  refine qq s rfl (y_addN (i := i_2) (j := 1) s rfl rfl (in64.2 (by omega))) fun a s => ?_
  refine asg s rfl rfl fun a s => ?_
  apply wN
  exact ⟨m1, Nat.lt_succ_self _, ⟨(i_2 + 1), hg, (s.sb rfl rfl rfl)⟩⟩
 replace hg := br_f hg hc3
 apply wp_exit
 refine p_then ?_
 refine p_then ?_
 refine p_in ?_
 apply pN
 apply wR
 refine asg s rfl rfl fun a s => ?_
 apply wN
 apply wp_ret
 obtain rfl := Option.some.inj hg
 refine fin1 (fn := Tryz.f11) s rfl (r_tmp s rfl) ?_
 exact rfl
set_option maxHeartbeats 400000 in
theorem c_slices_IndexFunc_EP (n : Nat) (M : Bs) (w0 : World) (hM : ∀ b, M b → b < w0.heap.size) (s_ : (List EP)) (Ap01 : Option Addr) (cp01 : Nat) (hp01 : SlR REP M w0 Ap01 (s_).length cp01 (s_)) (f_ : (EP → Option Bool)) (Ap11 : FuncId) (cp11 : List Value) (hp11 : FnR Tryz.prog Ap11 cp11 pre54 post54 (f_) M w0) (r : Int) (hg : slices_IndexFunc_EP n s_ f_ = some r) :
    Calls Tryz.prog 50 [.slice (Ap01) ((s_).length) (cp01), .func (.func Ap11) #[] (List.toArray cp11)].toArray w0 (Ret noB w0 fun v w => v = .int .i64 (r)) := by
 unfold slices_IndexFunc_EP at hg
 refine enter M noB func50 rfl rfl hM ?_
 intro a s
 replace s := s.es 101 hp01
 replace s := s.add 102 (fnF Tryz.prog Ap11 cp11 pre54 post54 (f_)) (by exact Fact.change _ enterM hp11)
 apply wR
 refine asg s rfl rfl fun a s => ?_
 apply wN
 apply wQ
 apply wR
 refine mv s rfl rfl fun a s => ?_
 refine qq s rfl (y_lenSlice s rfl underlying23) fun a s => ?_
 refine mv s rfl rfl fun a s => ?_
 apply wN
 apply wp_block
 refine c_loop (σ := Nat) (fun m1 a w => ∃ (t_1 : Nat), slices_IndexFunc_EP_L0 n s_ f_ m1 t_1 = some r ∧ St (⟨Tryz.f50.ntmps, M, noB, w0⟩ : Ctx) [(0, sl Ap01 (s_) cp01), (1, .func (.func Ap11) #[] (List.toArray cp11)), (7, vI ((((s_).length : Nat) : Int))), (8, vI (((t_1 : Nat) : Int)))] [] [(101, slF REP (Ap01) ((s_).length) (cp01) (s_)), (102, fnF Tryz.prog Ap11 cp11 pre54 post54 (f_))] a w) (fun m1 => m1) n ⟨(0), hg, (s.sb rfl rfl rfl)⟩ ?_
 clear s a; rintro m1 a w ⟨t_1, hg, s⟩
 rcases m1 with _ | m1
 ·rw [slices_IndexFunc_EP_L0] at hg; cases hg
 rw [slices_IndexFunc_EP_L0] at hg
 apply wR
 refine qq s rfl (y_lssN (i := t_1) (j := ((s_).length)) s rfl rfl) fun a s => ?_
 apply wN
 apply wQ
 refine c_dec s rfl (fun hc2 => ?_) (fun hc2 => ?_)
 ·replace hg := br_t hg hc2
  have hmx3 := SlR.mx (s.ft 101 rfl)
  apply wp_skip
  apply pN
  apply wQ
  apply wp_block
  apply wR
  refine mv s rfl rfl fun a s => ?_
  refine asg s rfl rfl fun a s => ?_
  apply wN
  apply wQ
  obtain ⟨x5, hx5, hg⟩ := bind_some hg
  obtain ⟨r7, hr7, hg⟩ := bind_some hg
  apply wL
  refine mv s rfl rfl fun a s => ?_
  refine mv s rfl rfl fun a s => ?_
  refine mv s rfl rfl fun a s => ?_
  obtain ⟨p10, hep10, hpp10⟩ := SlR.elemX (s.ft 101 rfl) hx5
  refine qq s rfl (y_elem (sz := 3) (i := t_1) s rfl rfl underlying23 rfl hep10 rfl (lt_of_get hx5)) fun a s => ?_
  obtain ⟨hlq11, hmq11, csq11, hdq11, hcq11⟩ := hpp10
  obtain ⟨Aq113, cq113, rfl, lq111, hq113⟩ := REP.open hdq11
  replace s := s.ns 104 hq113
  refine qq s rfl (y_ldp s rfl hlq11 hmq11 (by simpa using hcq11) underlying43 rfl rfl) fun a s => ?_
  refine l_seq rfl (l_callFn (cap := cp11) (x := x5) s rfl (s.ft 102 rfl) rfl rfl ⟨(Aq113), (cq113), rfl, (by omega), (s.ft 104 rfl)⟩ hr7 fun v12 a w hK hp s => ?_)
  obtain rfl := hp
  apply wN
  refine c_cond s rfl (fun hc14 => ?_) (fun hc14 => ?_)
  ·replace hg := br_t hg hc14
   apply wR
   refine mv s rfl rfl fun a s => ?_
   refine asg s rfl rfl fun a s => ?_
   apply wN
   apply wp_ret
   refine p_inR ?_
   refine p_thenR ?_
   refine p_thenR ?_
   refine p_inR ?_
   refine p_thenR ?_
   obtain rfl := Option.some.inj hg
   refine fin1 (fn := Tryz.f50) s rfl (r_tmp s rfl) ?_
   exact rfl
  replace hg := br_n hg hc14
  apply wp_skip
  refine p_inN ?_
  apply pN
  apply wL
  refine qq s rfl (y_addN (i := t_1) (j := 1) s rfl rfl (in64.2 (by omega))) fun a s => ?_
  refine mv s rfl rfl fun a s => ?_
  apply wN
  exact ⟨m1, Nat.lt_succ_self _, ⟨(t_1 + 1), hg, (s.sb rfl rfl rfl)⟩⟩
 replace hg := br_f hg hc2
 apply wp_exit
 refine p_then ?_
 refine p_then ?_
 refine p_in ?_
 apply pN
 apply wR
 refine asg s rfl rfl fun a s => ?_
 apply wN
 apply wp_ret
 obtain rfl := Option.some.inj hg
 refine fin1 (fn := Tryz.f50) s rfl (r_tmp s rfl) ?_
 exact rfl
set_option maxHeartbeats 400000 in
theorem c_slices_ContainsFunc_EP (n : Nat) (M : Bs) (w0 : World) (hM : ∀ b, M b → b < w0.heap.size) (s_ : (List EP)) (Ap01 : Option Addr) (cp01 : Nat) (hp01 : SlR REP M w0 Ap01 (s_).length cp01 (s_)) (f_ : (EP → Option Bool)) (Ap11 : FuncId) (cp11 : List Value) (hp11 : FnR Tryz.prog Ap11 cp11 pre54 post54 (f_) M w0) (r : Bool) (hg : slices_ContainsFunc_EP n s_ f_ = some r) :
    Calls Tryz.prog 28 [.slice (Ap01) ((s_).length) (cp01), .func (.func Ap11) #[] (List.toArray cp11)].toArray w0 (Ret noB w0 fun v w => v = .bool (r)) := by
 unfold slices_ContainsFunc_EP at hg
 refine enter M noB func28 rfl rfl hM ?_
 intro a s
 replace s := s.es 101 hp01
 replace s := s.add 102 (fnF Tryz.prog Ap11 cp11 pre54 post54 (f_)) (by exact Fact.change _ enterM hp11)
 apply wR
 refine asg s rfl rfl fun a s => ?_
 apply wN
 apply wQ
 obtain ⟨r1, hr1, hg⟩ := bind_some hg
 apply wL
 refine mv s rfl rfl fun a s => ?_
 refine mv s rfl rfl fun a s => ?_
 refine l_seq rfl (l_call (cap := []) s rfl func50 rfl (by kernel_rfl) rfl rfl (c_slices_IndexFunc_EP n _ _ s.lt s_ (Ap01) (cp01) (s.ft 101 rfl) f_ (Ap11) (cp11) (s.ft 102 rfl) r1 hr1) fun v4 a w hK hp s => ?_)
 obtain rfl := hp
 refine qq s rfl (y_geq s rfl rfl) fun a s => ?_
 refine asg s rfl rfl fun a s => ?_
 apply wN
 apply wp_ret
 obtain rfl := Option.some.inj hg
 refine fin1 (fn := Tryz.f28) s rfl (r_tmp s rfl) ?_
 exact rfl
set_option maxHeartbeats 400000 in
theorem c_scope_Labels_1 (n : Nat) (M : Bs) (w0 : World) (hM : ∀ b, M b → b < w0.heap.size) (x_ : EP) (Ap03 : Option Addr) (cp03 : Nat) (lp01 : (x_.Pred).length ≤ 9223372036854775807) (hp03 : SlR RArg M w0 Ap03 (x_.Args).length cp03 (x_.Args)) (bf0 : Nat) (c0_ : Int) (hb0 : BoxR bf0 [.int .i64 (c0_)] 3 M w0) (r : Bool) (hg : scope_Labels_1 n x_ c0_ = some r) :
    Calls Tryz.prog 32 [.agg #[.string (bs (x_.Pred)), .int .i64 (x_.Label), .slice (Ap03) ((x_.Args).length) (cp03)], .pointer (some ⟨bf0, 0, none⟩)].toArray w0 (Ret noB w0 fun v w => v = .bool (r)) := by
 unfold scope_Labels_1 at hg
 refine enter M noB func32 rfl rfl hM ?_
 intro a s
 replace s := s.es 101 hp03
 replace s := s.ebx 102 hb0
 apply wR
 refine l_seq rfl (l_box (zs := [vT (x_.Pred), vI (x_.Label), sl Ap03 (x_.Args) cp03]) s 1000 rfl rfl rfl rfl fun b2 a w hb hK s => ?_)
 refine asg s rfl rfl fun a s => ?_
 apply wN
 apply wR
 refine qq s rfl (y_boxField (o' := 1) s rfl underlying43 rfl rfl rfl) fun a s => ?_
 refine qq s rfl (y_loadBox1 (kk := 1000) s rfl rfl rfl underlying3 rfl) fun a s => ?_
 refine qq s rfl (y_loadF1 s rfl (s.ft 102 rfl) rfl underlying3 rfl) fun a s => ?_
 refine qq s rfl (y_eql s rfl rfl) fun a s => ?_
 refine asg s rfl rfl fun a s => ?_
 apply wN
 apply wp_ret
 obtain rfl := Option.some.inj hg
 refine fin1 (fn := Tryz.f32) s rfl (r_tmp s rfl) ?_
 exact rfl
set_option maxHeartbeats 400000 in
theorem c_scope_Labels (n : Nat) (M : Bs) (w0 : World) (hM : ∀ b, M b → b < w0.heap.size) (m_ : MRS) (Ap03 : Option Addr) (cp03 : Nat) (Ap04 : Option Addr) (cp04 : Nat) (Ap05 : Option Addr) (cp05 : Nat) (hp03 : SlR Rep.str M w0 Ap03 (m_.Vars).length cp03 (m_.Vars)) (hp04 : SlR REP M w0 Ap04 (m_.Rels).length cp04 (m_.Rels)) (hp05 : SlR RQeq M w0 Ap05 (m_.Cons).length cp05 (m_.Cons)) (r : (List Int)) (hg : scope_Labels n m_ = some r) :
    Calls Tryz.prog 14 [.agg #[.int .i64 (m_.Top), .int .i64 (m_.Index), .slice (Ap03) ((m_.Vars).length) (cp03), .slice (Ap04) ((m_.Rels).length) (cp04), .slice (Ap05) ((m_.Cons).length) (cp05)]].toArray w0 (Ret noB w0 fun v w => ∃ (Aa1 : Option Addr), ∃ (ca1 : Nat), v = .slice (Aa1) ((r).length) (ca1) ∧ (SlR (Rep.num .i64) M w Aa1 (r).length ca1 (r))) := by
 unfold scope_Labels at hg
 refine enter M noB func14 rfl rfl hM ?_
 intro a s
 replace s := s.es 101 hp03
 replace s := s.es 102 hp04
 replace s := s.es 103 hp05
 apply wR
 refine l_seq rfl (l_box (zs := [vI (m_.Top), vI (m_.Index), sl Ap03 (m_.Vars) cp03, sl Ap04 (m_.Rels) cp04, sl Ap05 (m_.Cons) cp05]) s 1000 rfl rfl rfl rfl fun b2 a w hb hK s => ?_)
 refine asg s rfl rfl fun a s => ?_
 apply wN
 apply wR
 refine asg s rfl rfl fun a s => ?_
 apply wN
 apply wQ
 apply wR
 refine qq s rfl (y_boxField (o' := 2) s rfl underlying26 rfl rfl rfl) fun a s => ?_
 refine qq s rfl (y_loadBox1 (kk := 1000) s rfl rfl rfl underlying22 rfl) fun a s => ?_
 refine qq s rfl (y_lenSlice s rfl underlying22) fun a s => ?_
 refine mv s rfl rfl fun a s => ?_
 apply wN
 apply wp_block
 replace s := s.nilRow 700104 3 1 rfl
 replace s := s.add 105 (rdF (Rep.num .i64) [] []) (RdAll.nil _ _ _)
 refine c_loop (σ := Nat) (fun m1 a w => ∃ (out_3 : (List Int)) (t_7 : Nat) (A4 : Option Addr) (c5 : Nat) (cs6 : List Value), scope_Labels_L0 n m_ m1 out_3 t_7 = some r ∧ St (⟨Tryz.f14.ntmps, M, noB, w0⟩ : Ctx) [(1, vP b2 0), (3, sl A4 (out_3) c5), (7, vI ((((m_.Vars).length : Nat) : Int))), (8, vI (((t_7 : Nat) : Int)))] [(1000, Ob.box b2 [vI (m_.Top), vI (m_.Index), sl Ap03 (m_.Vars) cp03, sl Ap04 (m_.Rels) cp04, sl Ap05 (m_.Cons) cp05] 26), (700104, Ob.row (A4) ((out_3).length) (c5) 3 1 (cs6))] [(101, slF Rep.str (Ap03) ((m_.Vars).length) (cp03) (m_.Vars)), (102, slF REP (Ap04) ((m_.Rels).length) (cp04) (m_.Rels)), (103, slF RQeq (Ap05) ((m_.Cons).length) (cp05) (m_.Cons)), (105, rdF (Rep.num .i64) (cs6) (out_3))] a w) (fun m1 => m1) n ⟨([]), (0), (none), (0), ([]), hg, (s.sb rfl rfl rfl)⟩ ?_
 clear s a; rintro m1 a w ⟨out_3, t_7, A4, c5, cs6, hg, s⟩
 rcases m1 with _ | m1
 ·rw [scope_Labels_L0] at hg; cases hg
 rw [scope_Labels_L0] at hg
 apply wR
 refine qq s rfl (y_lssN (i := t_7) (j := ((m_.Vars).length)) s rfl rfl) fun a s => ?_
 apply wN
 apply wQ
 refine c_dec s rfl (fun hc8 => ?_) (fun hc8 => ?_)
 ·replace hg := br_t hg hc8
  have hmx9 := SlR.mx (s.ft 101 rfl)
  apply wp_skip
  apply pN
  apply wQ
  apply wp_block
  apply wR
  refine mv s rfl rfl fun a s => ?_
  refine l_seq rfl (l_alloc (zs := [vI 0]) s 1401 rfl rfl rfl rfl fun b11 a w hb hK s => ?_)
  refine l_seq rfl (l_store (n := 1) (cs' := [vI (((t_7 : Nat) : Int))]) s 1401 rfl rfl rfl rfl rfl rfl rfl rfl ?_); clear s; intro w hK s; clear hK
  apply wN
  apply wQ
  obtain ⟨r12, hr12, hg⟩ := bind_some hg
  apply wL
  refine qq s rfl (y_boxField (o' := 3) s rfl underlying26 rfl rfl rfl) fun a s => ?_
  refine qq s rfl (y_loadBox1 (kk := 1000) s rfl rfl rfl underlying23 rfl) fun a s => ?_
  replace s := s.freezeBox (L' := [(1000, Ob.box b2 [vI (m_.Top), vI (m_.Index), sl Ap03 (m_.Vars) cp03, sl Ap04 (m_.Rels) cp04, sl Ap05 (m_.Cons) cp05] 26), (700104, Ob.row (A4) ((out_3).length) (c5) 3 1 (cs6))]) 107 1401 rfl ⟨rfl, rfl, trivial⟩ rfl
  refine qq s rfl (y_makeFunc (xs := [.tmp 4]) (vs := [vP b11 0]) s rfl) fun a s => ?_
  refine l_seq rfl (l_call (cap := []) s rfl func28 rfl (by kernel_rfl) rfl rfl (c_slices_ContainsFunc_EP n _ _ s.lt m_.Rels (Ap04) (cp04) (s.ft 102 rfl) (fun p => scope_Labels_1 n p ((t_7 : Nat) : Int)) (32) ([vP b11 0]) ⟨⟨_, _, func32, rfl, by kernel_rfl⟩, fun M1 w1 hk hm hlt vs x r hp hr => by obtain ⟨Aa3, ca3, rfl, la1, ha3⟩ := hp; exact c_scope_Labels_1 n M1 w1 hlt (x) Aa3 ca3 la1 ha3 b11 (((t_7 : Nat) : Int)) (Fact.move (boxF b11 [vI (((t_7 : Nat) : Int))] 3) hk hm (s.ft 107 rfl)) r hr⟩ r12 hr12) fun v15 a w hK hp s => ?_)
  obtain rfl := hp
  apply wN
  refine c_cond s rfl (fun hc17 => ?_) (fun hc17 => ?_)
  ·replace hg := br_t hg hc17
   obtain ⟨hk19, hg⟩ := chk_some hg
   apply wL
   refine mv s rfl rfl fun a s => ?_
   refine qq s rfl (y_loadF1 s rfl (s.ft 107 rfl) rfl underlying3 rfl) fun a s => ?_
   refine l_seq rfl (l_buildDense (sz := 1) s 1602 rfl rfl rfl underlying30 rfl rfl rfl rfl rfl rfl rfl fun b22 a w hbb22 hK s => ?_)
   clear hbb22
   replace s := s.add 110 (rdF (Rep.num .i64) (cellsOfL [vI (((t_7 : Nat) : Int))]) ([((t_7 : Nat) : Int)])) (RdAll.cons (by exact rfl) (RdAll.nil _ _ _))
   have hs24 := row_src (s.wd.holds 1602 _ rfl) (RdAll.one (s.ft 110 rfl))
   refine l_seq rfl (l_append (sz := 1) (by_ := 8) (N := (out_3 ++ [((t_7 : Nat) : Int)]).length) (ys := cs6 ++ (cellsOfL [vI (((t_7 : Nat) : Int))])) s 700104 rfl rfl rfl underlying30 rfl rfl rfl rfl rfl hs24 (by simp) rfl (by have hr := hk19; clear hg; first | omega | (simp only [List.length_append, List.length_cons, List.length_nil] at hr ⊢; omega) | (simp at hr ⊢; omega)) (by have hr := hk19; clear hg; first | omega | (simp only [List.length_append, List.length_cons, List.length_nil] at hr ⊢; omega) | (simp at hr ⊢; omega)) rfl fun Aq23 cq23 a w hA hK s => ?_)
   replace s := s.add 111 (rdF (Rep.num .i64) (cs6 ++ (cellsOfL [vI (((t_7 : Nat) : Int))])) (out_3 ++ [((t_7 : Nat) : Int)])) (RdAll.append (s.ft 105 rfl) (s.ft 110 rfl))
   refine asg s rfl rfl fun a s => ?_
   apply wO
   refine p_inN ?_
   apply pN
   apply wL
   refine qq s rfl (y_addN (i := t_7) (j := 1) s rfl rfl (in64.2 (by omega))) fun a s => ?_
   refine mv s rfl rfl fun a s => ?_
   apply wN
   replace s := s.add 105 (rdF (Rep.num .i64) (cs6 ++ (cellsOfL [vI (((t_7 : Nat) : Int))])) (out_3 ++ [((t_7 : Nat) : Int)])) (s.ft 111 rfl)
   exact ⟨m1, Nat.lt_succ_self _, ⟨(out_3 ++ [((t_7 : Nat) : Int)]), (t_7 + 1), (Aq23), (cq23), (cs6 ++ (cellsOfL [vI (((t_7 : Nat) : Int))])), hg, (s.sb rfl rfl rfl)⟩⟩
  replace hg := br_n hg hc17
  apply wp_skip
  refine p_inN ?_
  apply pN
  apply wL
  refine qq s rfl (y_addN (i := t_7) (j := 1) s rfl rfl (in64.2 (by omega))) fun a s => ?_
  refine mv s rfl rfl fun a s => ?_
  apply wN
  replace s := s.al 105 105 rfl
  exact ⟨m1, Nat.lt_succ_self _, ⟨(out_3), (t_7 + 1), (A4), (c5), (cs6), hg, (s.sb rfl rfl rfl)⟩⟩
 replace hg := br_f hg hc8
 apply wp_exit
 refine p_then ?_
 refine p_then ?_
 refine p_in ?_
 apply pN
 apply wR
 refine mv s rfl rfl fun a s => ?_
 refine asg s rfl rfl fun a s => ?_
 apply wN
 apply wp_ret
 obtain rfl := Option.some.inj hg
 refine fin1 (fn := Tryz.f14) s rfl (r_tmp s rfl) ?_
 exact ⟨(A4), (c5), rfl, (s.rowOut (R := (Rep.num .i64)) (kk := 700104) rfl rfl (s.ft 105 rfl))⟩
set_option maxHeartbeats 400000 in
theorem c_slices_Index_int (n : Nat) (M : Bs) (w0 : World) (hM : ∀ b, M b → b < w0.heap.size) (s_ : (List Int)) (Ap01 : Option Addr) (cp01 : Nat) (hp01 : SlR (Rep.num .i64) M w0 Ap01 (s_).length cp01 (s_)) (v_ : Int) (r : Int) (hg : slices_Index_int n s_ v_ = some r) :
    Calls Tryz.prog 49 [.slice (Ap01) ((s_).length) (cp01), .int .i64 (v_)].toArray w0 (Ret noB w0 fun v w => v = .int .i64 (r)) := by
 unfold slices_Index_int at hg
 refine enter M noB func49 rfl rfl hM ?_
 intro a s
 replace s := s.es 101 hp01
 apply wR
 refine asg s rfl rfl fun a s => ?_
 apply wN
 apply wQ
 apply wR
 refine mv s rfl rfl fun a s => ?_
 refine qq s rfl (y_lenSlice s rfl underlying30) fun a s => ?_
 refine mv s rfl rfl fun a s => ?_
 apply wN
 apply wp_block
 refine c_loop (σ := Nat) (fun m1 a w => ∃ (t_1 : Nat), slices_Index_int_L0 n s_ v_ m1 t_1 = some r ∧ St (⟨Tryz.f49.ntmps, M, noB, w0⟩ : Ctx) [(0, sl Ap01 (s_) cp01), (1, vI v_), (7, vI ((((s_).length : Nat) : Int))), (8, vI (((t_1 : Nat) : Int)))] [] [(101, slF (Rep.num .i64) (Ap01) ((s_).length) (cp01) (s_))] a w) (fun m1 => m1) n ⟨(0), hg, (s.sb rfl rfl rfl)⟩ ?_
 clear s a; rintro m1 a w ⟨t_1, hg, s⟩
 rcases m1 with _ | m1
 ·rw [slices_Index_int_L0] at hg; cases hg
 rw [slices_Index_int_L0] at hg
 apply wR
 refine qq s rfl (y_lssN (i := t_1) (j := ((s_).length)) s rfl rfl) fun a s => ?_
 apply wN
 apply wQ
 refine c_dec s rfl (fun hc2 => ?_) (fun hc2 => ?_)
 ·replace hg := br_t hg hc2
  have hmx3 := SlR.mx (s.ft 101 rfl)
  apply wp_skip
  apply pN
  apply wQ
  apply wp_block
  apply wR
  refine mv s rfl rfl fun a s => ?_
  refine asg s rfl rfl fun a s => ?_
  apply wN
  apply wQ
  obtain ⟨x5, hx5, hg⟩ := bind_some hg
  apply wL
  refine mv s rfl rfl fun a s => ?_
  refine mv s rfl rfl fun a s => ?_
  refine mv s rfl rfl fun a s => ?_
  obtain ⟨p7, hep7, hpp7⟩ := SlR.elemX (s.ft 101 rfl) hx5
  refine qq s rfl (y_elem (sz := 1) (i := t_1) s rfl rfl underlying30 rfl hep7 rfl (lt_of_get hx5)) fun a s => ?_
  obtain ⟨hlq8, hmq8, csq8, hdq8, hcq8⟩ := hpp7
  obtain rfl := hdq8
  refine qq s rfl (y_ldp1 s rfl hlq8 hmq8 (hcq8 0 _ rfl) underlying3 rfl) fun a s => ?_
  refine qq s rfl (y_eql s rfl rfl) fun a s => ?_
  apply wN
  refine c_dec s rfl (fun hc9 => ?_) (fun hc9 => ?_)
  ·replace hg := br_t hg hc9
   apply wR
   refine mv s rfl rfl fun a s => ?_
   refine asg s rfl rfl fun a s => ?_
   apply wN
   apply wp_ret
   refine p_inR ?_
   refine p_thenR ?_
   refine p_thenR ?_
   refine p_inR ?_
   refine p_thenR ?_
   obtain rfl := Option.some.inj hg
   refine fin1 (fn := Tryz.f49) s rfl (r_tmp s rfl) ?_
   exact rfl
  replace hg := br_f hg hc9
  apply wp_skip
  refine p_inN ?_
  apply pN
  apply wL
  refine qq s rfl (y_addN (i := t_1) (j := 1) s rfl rfl (in64.2 (by omega))) fun a s => ?_
  refine mv s rfl rfl fun a s => ?_
  apply wN
  exact ⟨m1, Nat.lt_succ_self _, ⟨(t_1 + 1), hg, (s.sb rfl rfl rfl)⟩⟩
 replace hg := br_f hg hc2
 apply wp_exit
 refine p_then ?_
 refine p_then ?_
 refine p_in ?_
 apply pN
 apply wR
 refine asg s rfl rfl fun a s => ?_
 apply wN
 apply wp_ret
 obtain rfl := Option.some.inj hg
 refine fin1 (fn := Tryz.f49) s rfl (r_tmp s rfl) ?_
 exact rfl
set_option maxHeartbeats 400000 in
theorem c_slices_Contains_int (n : Nat) (M : Bs) (w0 : World) (hM : ∀ b, M b → b < w0.heap.size) (s_ : (List Int)) (Ap01 : Option Addr) (cp01 : Nat) (hp01 : SlR (Rep.num .i64) M w0 Ap01 (s_).length cp01 (s_)) (v_ : Int) (r : Bool) (hg : slices_Contains_int n s_ v_ = some r) :
    Calls Tryz.prog 27 [.slice (Ap01) ((s_).length) (cp01), .int .i64 (v_)].toArray w0 (Ret noB w0 fun v w => v = .bool (r)) := by
 unfold slices_Contains_int at hg
 refine enter M noB func27 rfl rfl hM ?_
 intro a s
 replace s := s.es 101 hp01
 apply wR
 refine asg s rfl rfl fun a s => ?_
 apply wN
 apply wQ
 obtain ⟨r1, hr1, hg⟩ := bind_some hg
 apply wL
 refine mv s rfl rfl fun a s => ?_
 refine mv s rfl rfl fun a s => ?_
 refine l_seq rfl (l_call (cap := []) s rfl func49 rfl (by kernel_rfl) rfl rfl (c_slices_Index_int n _ _ s.lt s_ (Ap01) (cp01) (s.ft 101 rfl) v_ r1 hr1) fun v4 a w hK hp s => ?_)
 obtain rfl := hp
 refine qq s rfl (y_geq s rfl rfl) fun a s => ?_
 refine asg s rfl rfl fun a s => ?_
 apply wN
 apply wp_ret
 obtain rfl := Option.some.inj hg
 refine fin1 (fn := Tryz.f27) s rfl (r_tmp s rfl) ?_
 exact rfl
set_option maxHeartbeats 400000 in
theorem c_slices_IndexFunc_Arg (n : Nat) (M : Bs) (w0 : World) (hM : ∀ b, M b → b < w0.heap.size) (s_ : (List Arg)) (Ap01 : Option Addr) (cp01 : Nat) (hp01 : SlR RArg M w0 Ap01 (s_).length cp01 (s_)) (f_ : (Arg → Option Bool)) (Ap11 : FuncId) (cp11 : List Value) (hp11 : FnR Tryz.prog Ap11 cp11 pre71 post71 (f_) M w0) (r : Int) (hg : slices_IndexFunc_Arg n s_ f_ = some r) :
    Calls Tryz.prog 73 [.slice (Ap01) ((s_).length) (cp01), .func (.func Ap11) #[] (List.toArray cp11)].toArray w0 (Ret noB w0 fun v w => v = .int .i64 (r)) := by
 unfold slices_IndexFunc_Arg at hg
 refine enter M noB func73 rfl rfl hM ?_
 intro a s
 replace s := s.es 101 hp01
 replace s := s.add 102 (fnF Tryz.prog Ap11 cp11 pre71 post71 (f_)) (by exact Fact.change _ enterM hp11)
 apply wR
 refine asg s rfl rfl fun a s => ?_
 apply wN
 apply wQ
 apply wR
 refine mv s rfl rfl fun a s => ?_
 refine qq s rfl (y_lenSlice s rfl underlying41) fun a s => ?_
 refine mv s rfl rfl fun a s => ?_
 apply wN
 apply wp_block
 refine c_loop (σ := Nat) (fun m1 a w => ∃ (t_1 : Nat), slices_IndexFunc_Arg_L0 n s_ f_ m1 t_1 = some r ∧ St (⟨Tryz.f73.ntmps, M, noB, w0⟩ : Ctx) [(0, sl Ap01 (s_) cp01), (1, .func (.func Ap11) #[] (List.toArray cp11)), (7, vI ((((s_).length : Nat) : Int))), (8, vI (((t_1 : Nat) : Int)))] [] [(101, slF RArg (Ap01) ((s_).length) (cp01) (s_)), (102, fnF Tryz.prog Ap11 cp11 pre71 post71 (f_))] a w) (fun m1 => m1) n ⟨(0), hg, (s.sb rfl rfl rfl)⟩ ?_
 clear s a; rintro m1 a w ⟨t_1, hg, s⟩
 rcases m1 with _ | m1
 ·rw [slices_IndexFunc_Arg_L0] at hg; cases hg
 rw [slices_IndexFunc_Arg_L0] at hg
 apply wR
 refine qq s rfl (y_lssN (i := t_1) (j := ((s_).length)) s rfl rfl) fun a s => ?_
 apply wN
 apply wQ
 refine c_dec s rfl (fun hc2 => ?_) (fun hc2 => ?_)
 ·replace hg := br_t hg hc2
  have hmx3 := SlR.mx (s.ft 101 rfl)
  apply wp_skip
  apply pN
  apply wQ
  apply wp_block
  apply wR
  refine mv s rfl rfl fun a s => ?_
  refine asg s rfl rfl fun a s => ?_
  apply wN
  apply wQ
  obtain ⟨x5, hx5, hg⟩ := bind_some hg
  obtain ⟨r7, hr7, hg⟩ := bind_some hg
  apply wL
  refine mv s rfl rfl fun a s => ?_
  refine mv s rfl rfl fun a s => ?_
  refine mv s rfl rfl fun a s => ?_
  obtain ⟨p10, hep10, hpp10⟩ := SlR.elemX (s.ft 101 rfl) hx5
  refine qq s rfl (y_elem (sz := 2) (i := t_1) s rfl rfl underlying41 rfl hep10 rfl (lt_of_get hx5)) fun a s => ?_
  obtain ⟨hlq11, hmq11, csq11, hdq11, hcq11⟩ := hpp10
  obtain ⟨rfl, lq111⟩ := RArg.open hdq11
  refine qq s rfl (y_ldp s rfl hlq11 hmq11 (by simpa using hcq11) underlying45 rfl rfl) fun a s => ?_
  refine l_seq rfl (l_callFn (cap := cp11) (x := x5) s rfl (s.ft 102 rfl) rfl rfl ⟨rfl, (by omega)⟩ hr7 fun v12 a w hK hp s => ?_)
  obtain rfl := hp
  apply wN
  refine c_cond s rfl (fun hc14 => ?_) (fun hc14 => ?_)
  ·replace hg := br_t hg hc14
   apply wR
   refine mv s rfl rfl fun a s => ?_
   refine asg s rfl rfl fun a s => ?_
   apply wN
   apply wp_ret
   refine p_inR ?_
   refine p_thenR ?_
   refine p_thenR ?_
   refine p_inR ?_
   refine p_thenR ?_
   obtain rfl := Option.some.inj hg
   refine fin1 (fn := Tryz.f73) s rfl (r_tmp s rfl) ?_
   exact rfl
  replace hg := br_n hg hc14
  apply wp_skip
  refine p_inN ?_
  apply pN
  apply wL
  refine qq s rfl (y_addN (i := t_1) (j := 1) s rfl rfl (in64.2 (by omega))) fun a s => ?_
  refine mv s rfl rfl fun a s => ?_
  apply wN
  exact ⟨m1, Nat.lt_succ_self _, ⟨(t_1 + 1), hg, (s.sb rfl rfl rfl)⟩⟩
 replace hg := br_f hg hc2
 apply wp_exit
 refine p_then ?_
 refine p_then ?_
 refine p_in ?_
 apply pN
 apply wR
 refine asg s rfl rfl fun a s => ?_
 apply wN
 apply wp_ret
 obtain rfl := Option.some.inj hg
 refine fin1 (fn := Tryz.f73) s rfl (r_tmp s rfl) ?_
 exact rfl
set_option maxHeartbeats 400000 in
theorem c_slices_ContainsFunc_Arg (n : Nat) (M : Bs) (w0 : World) (hM : ∀ b, M b → b < w0.heap.size) (s_ : (List Arg)) (Ap01 : Option Addr) (cp01 : Nat) (hp01 : SlR RArg M w0 Ap01 (s_).length cp01 (s_)) (f_ : (Arg → Option Bool)) (Ap11 : FuncId) (cp11 : List Value) (hp11 : FnR Tryz.prog Ap11 cp11 pre71 post71 (f_) M w0) (r : Bool) (hg : slices_ContainsFunc_Arg n s_ f_ = some r) :
    Calls Tryz.prog 51 [.slice (Ap01) ((s_).length) (cp01), .func (.func Ap11) #[] (List.toArray cp11)].toArray w0 (Ret noB w0 fun v w => v = .bool (r)) := by
 unfold slices_ContainsFunc_Arg at hg
 refine enter M noB func51 rfl rfl hM ?_
 intro a s
 replace s := s.es 101 hp01
 replace s := s.add 102 (fnF Tryz.prog Ap11 cp11 pre71 post71 (f_)) (by exact Fact.change _ enterM hp11)
 apply wR
 refine asg s rfl rfl fun a s => ?_
 apply wN
 apply wQ
 obtain ⟨r1, hr1, hg⟩ := bind_some hg
 apply wL
 refine mv s rfl rfl fun a s => ?_
 refine mv s rfl rfl fun a s => ?_
 refine l_seq rfl (l_call (cap := []) s rfl func73 rfl (by kernel_rfl) rfl rfl (c_slices_IndexFunc_Arg n _ _ s.lt s_ (Ap01) (cp01) (s.ft 101 rfl) f_ (Ap11) (cp11) (s.ft 102 rfl) r1 hr1) fun v4 a w hK hp s => ?_)
 obtain rfl := hp
 refine qq s rfl (y_geq s rfl rfl) fun a s => ?_
 refine asg s rfl rfl fun a s => ?_
 apply wN
 apply wp_ret
 obtain rfl := Option.some.inj hg
 refine fin1 (fn := Tryz.f51) s rfl (r_tmp s rfl) ?_
 exact rfl
set_option maxHeartbeats 400000 in
theorem c_scope_used_1 (n : Nat) (M : Bs) (w0 : World) (hM : ∀ b, M b → b < w0.heap.size) (a_ : Arg) (lp01 : (a_.Role).length ≤ 9223372036854775807) (bf0 : Nat) (c0_ : Int) (hb0 : BoxR bf0 [.int .i64 (c0_)] 3 M w0) (r : Bool) (hg : scope_used_1 n a_ c0_ = some r) :
    Calls Tryz.prog 52 [.agg #[.string (bs (a_.Role)), .int .i64 (a_.Var)], .pointer (some ⟨bf0, 0, none⟩)].toArray w0 (Ret noB w0 fun v w => v = .bool (r)) := by
 unfold scope_used_1 at hg
 refine enter M noB func52 rfl rfl hM ?_
 intro a s
 replace s := s.ebx 101 hb0
 apply wR
 refine l_seq rfl (l_box (zs := [vT (a_.Role), vI (a_.Var)]) s 1000 rfl rfl rfl rfl fun b2 a w hb hK s => ?_)
 refine asg s rfl rfl fun a s => ?_
 apply wN
 apply wR
 refine qq s rfl (y_boxField (o' := 1) s rfl underlying45 rfl rfl rfl) fun a s => ?_
 refine qq s rfl (y_loadBox1 (kk := 1000) s rfl rfl rfl underlying3 rfl) fun a s => ?_
 refine qq s rfl (y_loadF1 s rfl (s.ft 101 rfl) rfl underlying3 rfl) fun a s => ?_
 refine qq s rfl (y_eql s rfl rfl) fun a s => ?_
 refine asg s rfl rfl fun a s => ?_
 apply wN
 apply wp_ret
 obtain rfl := Option.some.inj hg
 refine fin1 (fn := Tryz.f52) s rfl (r_tmp s rfl) ?_
 exact rfl
set_option maxHeartbeats 400000 in
theorem c_scope_used (n : Nat) (M : Bs) (w0 : World) (hM : ∀ b, M b → b < w0.heap.size) (x_ : EP) (Ap03 : Option Addr) (cp03 : Nat) (lp01 : (x_.Pred).length ≤ 9223372036854775807) (hp03 : SlR RArg M w0 Ap03 (x_.Args).length cp03 (x_.Args)) (v_ : Int) (r : Bool) (hg : scope_used n x_ v_ = some r) :
    Calls Tryz.prog 30 [.agg #[.string (bs (x_.Pred)), .int .i64 (x_.Label), .slice (Ap03) ((x_.Args).length) (cp03)], .int .i64 (v_)].toArray w0 (Ret noB w0 fun v w => v = .bool (r)) := by
 unfold scope_used at hg
 refine enter M noB func30 rfl rfl hM ?_
 intro a s
 replace s := s.es 101 hp03
 apply wR
 refine l_seq rfl (l_box (zs := [vT (x_.Pred), vI (x_.Label), sl Ap03 (x_.Args) cp03]) s 1000 rfl rfl rfl rfl fun b3 a w hb hK s => ?_)
 refine l_seq rfl (l_box (zs := [vI v_]) s 1001 rfl rfl rfl rfl fun b4 a w hb hK s => ?_)
 refine asg s rfl rfl fun a s => ?_
 apply wN
 apply wQ
 obtain ⟨r5, hr5, hg⟩ := bind_some hg
 apply wL
 refine qq s rfl (y_boxField (o' := 2) s rfl underlying43 rfl rfl rfl) fun a s => ?_
 refine qq s rfl (y_loadBox1 (kk := 1000) s rfl rfl rfl underlying41 rfl) fun a s => ?_
 replace s := s.freezeBox (L' := [(1000, Ob.box b3 [vT (x_.Pred), vI (x_.Label), sl Ap03 (x_.Args) cp03] 43)]) 103 1001 rfl ⟨rfl, trivial⟩ rfl
 refine qq s rfl (y_makeFunc (xs := [.tmp 3]) (vs := [vP b4 0]) s rfl) fun a s => ?_
 refine l_seq rfl (l_call (cap := []) s rfl func51 rfl (by kernel_rfl) rfl rfl (c_slices_ContainsFunc_Arg n _ _ s.lt x_.Args (Ap03) (cp03) (s.ft 101 rfl) (fun p => scope_used_1 n p v_) (52) ([vP b4 0]) ⟨⟨_, _, func52, rfl, by kernel_rfl⟩, fun M1 w1 hk hm hlt vs x r hp hr => by obtain ⟨rfl, la1⟩ := hp; exact c_scope_used_1 n M1 w1 hlt (x) la1 b4 (v_) (Fact.move (boxF b4 [vI v_] 3) hk hm (s.ft 103 rfl)) r hr⟩ r5 hr5) fun v8 a w hK hp s => ?_)
 obtain rfl := hp
 refine asg s rfl rfl fun a s => ?_
 apply wN
 apply wp_ret
 obtain rfl := Option.some.inj hg
 refine fin1 (fn := Tryz.f30) s rfl (r_tmp s rfl) ?_
 exact rfl
set_option maxHeartbeats 400000 in
theorem c_scope_Holes_1 (n : Nat) (M : Bs) (w0 : World) (hM : ∀ b, M b → b < w0.heap.size) (x_ : EP) (Ap03 : Option Addr) (cp03 : Nat) (lp01 : (x_.Pred).length ≤ 9223372036854775807) (hp03 : SlR RArg M w0 Ap03 (x_.Args).length cp03 (x_.Args)) (bf0 : Nat) (c0_ : Int) (hb0 : BoxR bf0 [.int .i64 (c0_)] 3 M w0) (r : Bool) (hg : scope_Holes_1 n x_ c0_ = some r) :
    Calls Tryz.prog 29 [.agg #[.string (bs (x_.Pred)), .int .i64 (x_.Label), .slice (Ap03) ((x_.Args).length) (cp03)], .pointer (some ⟨bf0, 0, none⟩)].toArray w0 (Ret noB w0 fun v w => v = .bool (r)) := by
 unfold scope_Holes_1 at hg
 refine enter M noB func29 rfl rfl hM ?_
 intro a s
 replace s := s.es 101 hp03
 replace s := s.ebx 102 hb0
 apply wR
 refine l_seq rfl (l_box (zs := [vT (x_.Pred), vI (x_.Label), sl Ap03 (x_.Args) cp03]) s 1000 rfl rfl rfl rfl fun b2 a w hb hK s => ?_)
 refine asg s rfl rfl fun a s => ?_
 apply wN
 apply wQ
 obtain ⟨r3, hr3, hg⟩ := bind_some hg
 apply wL
 refine qq s rfl (y_loadAll (kk := 1000) s rfl rfl underlying43 rfl rfl) fun a s => ?_
 refine qq s rfl (y_loadF1 s rfl (s.ft 102 rfl) rfl underlying3 rfl) fun a s => ?_
 refine l_seq rfl (l_call (cap := []) s rfl func30 rfl (by kernel_rfl) rfl rfl (c_scope_used n _ _ s.lt x_ (Ap03) (cp03) (by omega) (s.ft 101 rfl) c0_ r3 hr3) fun v6 a w hK hp s => ?_)
 obtain rfl := hp
 refine asg s rfl rfl fun a s => ?_
 apply wN
 apply wp_ret
 obtain rfl := Option.some.inj hg
 refine fin1 (fn := Tryz.f29) s rfl (r_tmp s rfl) ?_
 exact rfl
set_option maxHeartbeats 400000 in
theorem c_scope_Holes (n : Nat) (M : Bs) (w0 : World) (hM : ∀ b, M b → b < w0.heap.size) (m_ : MRS) (Ap03 : Option Addr) (cp03 : Nat) (Ap04 : Option Addr) (cp04 : Nat) (Ap05 : Option Addr) (cp05 : Nat) (hp03 : SlR Rep.str M w0 Ap03 (m_.Vars).length cp03 (m_.Vars)) (hp04 : SlR REP M w0 Ap04 (m_.Rels).length cp04 (m_.Rels)) (hp05 : SlR RQeq M w0 Ap05 (m_.Cons).length cp05 (m_.Cons)) (r : (List Int)) (hg : scope_Holes n m_ = some r) :
    Calls Tryz.prog 12 [.agg #[.int .i64 (m_.Top), .int .i64 (m_.Index), .slice (Ap03) ((m_.Vars).length) (cp03), .slice (Ap04) ((m_.Rels).length) (cp04), .slice (Ap05) ((m_.Cons).length) (cp05)]].toArray w0 (Ret noB w0 fun v w => ∃ (Aa1 : Option Addr), ∃ (ca1 : Nat), v = .slice (Aa1) ((r).length) (ca1) ∧ (SlR (Rep.num .i64) M w Aa1 (r).length ca1 (r))) := by
 unfold scope_Holes at hg
 refine enter M noB func12 rfl rfl hM ?_
 intro a s
 replace s := s.es 101 hp03
 replace s := s.es 102 hp04
 replace s := s.es 103 hp05
 apply wR
 refine l_seq rfl (l_box (zs := [vI (m_.Top), vI (m_.Index), sl Ap03 (m_.Vars) cp03, sl Ap04 (m_.Rels) cp04, sl Ap05 (m_.Cons) cp05]) s 1000 rfl rfl rfl rfl fun b2 a w hb hK s => ?_)
 refine asg s rfl rfl fun a s => ?_
 apply wN
 apply wR
 refine asg s rfl rfl fun a s => ?_
 apply wN
 apply wQ
 obtain ⟨r3, hr3, hg⟩ := bind_some hg
 apply wL
 refine qq s rfl (y_loadAll (kk := 1000) s rfl rfl underlying26 rfl rfl) fun a s => ?_
 refine l_seq rfl (l_call (cap := []) s rfl func14 rfl (by kernel_rfl) rfl rfl (c_scope_Labels n _ _ s.lt m_ (Ap03) (cp03) (Ap04) (cp04) (Ap05) (cp05) (s.ft 101 rfl) (s.ft 102 rfl) (s.ft 103 rfl) r3 hr3) fun v6 a w hK hp s => ?_)
 obtain ⟨Au7a1, cu7a1, rfl, hu7a1⟩ := hp
 replace s := s.ns 105 hu7a1
 refine asg s rfl rfl fun a s => ?_
 apply wN
 apply wQ
 apply wR
 refine qq s rfl (y_boxField (o' := 2) s rfl underlying26 rfl rfl rfl) fun a s => ?_
 refine qq s rfl (y_loadBox1 (kk := 1000) s rfl rfl rfl underlying22 rfl) fun a s => ?_
 refine qq s rfl (y_lenSlice s rfl underlying22) fun a s => ?_
 refine mv s rfl rfl fun a s => ?_
 apply wN
 apply wp_block
 replace s := s.nilRow 700106 3 1 rfl
 replace s := s.add 107 (rdF (Rep.num .i64) [] []) (RdAll.nil _ _ _)
 refine c_loop (σ := Nat) (fun m1 a w => ∃ (out_8 : (List Int)) (t_12 : Nat) (A9 : Option Addr) (c10 : Nat) (cs11 : List Value), scope_Holes_L0 n m_ r3 m1 out_8 t_12 = some r ∧ St (⟨Tryz.f12.ntmps, M, noB, w0⟩ : Ctx) [(1, vP b2 0), (3, sl A9 (out_8) c10), (4, sl Au7a1 (r3) cu7a1), (10, vI ((((m_.Vars).length : Nat) : Int))), (11, vI (((t_12 : Nat) : Int)))] [(1000, Ob.box b2 [vI (m_.Top), vI (m_.Index), sl Ap03 (m_.Vars) cp03, sl Ap04 (m_.Rels) cp04, sl Ap05 (m_.Cons) cp05] 26), (700106, Ob.row (A9) ((out_8).length) (c10) 3 1 (cs11))] [(101, slF Rep.str (Ap03) ((m_.Vars).length) (cp03) (m_.Vars)), (102, slF REP (Ap04) ((m_.Rels).length) (cp04) (m_.Rels)), (103, slF RQeq (Ap05) ((m_.Cons).length) (cp05) (m_.Cons)), (105, slF (Rep.num .i64) (Au7a1) ((r3).length) (cu7a1) (r3)), (107, rdF (Rep.num .i64) (cs11) (out_8))] a w) (fun m1 => m1) n ⟨([]), (0), (none), (0), ([]), hg, (s.sb rfl rfl rfl)⟩ ?_
 clear s a; rintro m1 a w ⟨out_8, t_12, A9, c10, cs11, hg, s⟩
 rcases m1 with _ | m1
 ·rw [scope_Holes_L0] at hg; cases hg
 rw [scope_Holes_L0] at hg
 apply wR
 refine qq s rfl (y_lssN (i := t_12) (j := ((m_.Vars).length)) s rfl rfl) fun a s => ?_
 apply wN
 apply wQ
 refine c_dec s rfl (fun hc13 => ?_) (fun hc13 => ?_)
 ·replace hg := br_t hg hc13
  have hmx14 := SlR.mx (s.ft 101 rfl)
  apply wp_skip
  apply pN
  apply wQ
  apply wp_block
  apply wR
  refine mv s rfl rfl fun a s => ?_
  refine l_seq rfl (l_alloc (zs := [vI 0]) s 1501 rfl rfl rfl rfl fun b16 a w hb hK s => ?_)
  refine l_seq rfl (l_store (n := 1) (cs' := [vI (((t_12 : Nat) : Int))]) s 1501 rfl rfl rfl rfl rfl rfl rfl rfl ?_); clear s; intro w hK s; clear hK
  apply wN
  apply wQ
  apply wQ
  obtain ⟨k17, hg, hk17⟩ := jn_some hg
  refine c_post (fun a w => ∃ (t_18 : Bool), k17 t_18 = some r ∧ St (⟨Tryz.f12.ntmps, M, noB, w0⟩ : Ctx) [(1, vP b2 0), (3, sl A9 (out_8) c10), (4, sl Au7a1 (r3) cu7a1), (5, vP b16 0), (10, vI ((((m_.Vars).length : Nat) : Int))), (11, vI (((t_12 : Nat) : Int))), (24, .bool (t_18))] [(1000, Ob.box b2 [vI (m_.Top), vI (m_.Index), sl Ap03 (m_.Vars) cp03, sl Ap04 (m_.Rels) cp04, sl Ap05 (m_.Cons) cp05] 26), (1501, Ob.box b16 [vI (((t_12 : Nat) : Int))] 3), (700106, Ob.row (A9) ((out_8).length) (c10) 3 1 (cs11))] [(101, slF Rep.str (Ap03) ((m_.Vars).length) (cp03) (m_.Vars)), (102, slF REP (Ap04) ((m_.Rels).length) (cp04) (m_.Rels)), (103, slF RQeq (Ap05) ((m_.Cons).length) (cp05) (m_.Cons)), (105, slF (Rep.num .i64) (Au7a1) ((r3).length) (cu7a1) (r3)), (107, rdF (Rep.num .i64) (cs11) (out_8))] a w) ?_ ?_
  ·obtain ⟨x20, hx20, hg⟩ := bind_some hg
   rcases Decidable.em ((x20 : List UInt8) ≠ [104]) with hs22 | hs22
   ·have hs22e := decide_eq_true hs22
    replace hg := br_t hg hs22
    apply wL
    refine qq s rfl (y_boxField (o' := 2) s rfl underlying26 rfl rfl rfl) fun a s => ?_
    refine qq s rfl (y_loadBox1 (kk := 1000) s rfl rfl rfl underlying22 rfl) fun a s => ?_
    refine qq s rfl (y_loadBox1 (kk := 1501) s rfl rfl rfl underlying3 rfl) fun a s => ?_
    obtain ⟨p23, hep23, hpp23⟩ := SlR.elemX (s.ft 101 rfl) hx20
    refine qq s rfl (y_elem (sz := 1) (i := t_12) s rfl rfl underlying22 rfl hep23 rfl (lt_of_get hx20)) fun a s => ?_
    obtain ⟨hlq24, hmq24, csq24, hdq24, hcq24⟩ := hpp23
    obtain ⟨rfl, lq241⟩ := hdq24
    refine qq s rfl (y_ldp1 s rfl hlq24 hmq24 (hcq24 0 _ rfl) underlying9 rfl) fun a s => ?_
    refine qq s rfl (yl_b (y_sne s rfl rfl) hs22e) fun a s => ?_
    refine mv s rfl rfl fun a s => ?_
    refine gn s rfl fun a s => ?_
    refine gn s rfl fun a s => ?_
    refine gn s rfl fun a s => ?_
    refine qq s rfl (y_pick_t s rfl rfl) fun a s => ?_
    apply wN
    exact ⟨(true), hg, (s.sb rfl rfl rfl)⟩
   have hs22e := decide_eq_false hs22
   replace hg := br_f hg hs22
   obtain ⟨r25, hr25, hg⟩ := bind_some hg
   apply wL
   refine qq s rfl (y_boxField (o' := 2) s rfl underlying26 rfl rfl rfl) fun a s => ?_
   refine qq s rfl (y_loadBox1 (kk := 1000) s rfl rfl rfl underlying22 rfl) fun a s => ?_
   refine qq s rfl (y_loadBox1 (kk := 1501) s rfl rfl rfl underlying3 rfl) fun a s => ?_
   obtain ⟨p28, hep28, hpp28⟩ := SlR.elemX (s.ft 101 rfl) hx20
   refine qq s rfl (y_elem (sz := 1) (i := t_12) s rfl rfl underlying22 rfl hep28 rfl (lt_of_get hx20)) fun a s => ?_
   obtain ⟨hlq29, hmq29, csq29, hdq29, hcq29⟩ := hpp28
   obtain ⟨rfl, lq291⟩ := hdq29
   refine qq s rfl (y_ldp1 s rfl hlq29 hmq29 (hcq29 0 _ rfl) underlying9 rfl) fun a s => ?_
   refine qq s rfl (yl_b (y_sne s rfl rfl) hs22e) fun a s => ?_
   refine mv s rfl rfl fun a s => ?_
   refine gm s rfl rfl fun a s => ?_
   refine gy s rfl (y_loadBox1 (kk := 1501) s rfl rfl rfl underlying3 rfl) fun a s => ?_
   refine gl s rfl (l_call (cap := []) s rfl func27 rfl (by kernel_rfl) rfl rfl (c_slices_Contains_int n _ _ s.lt r3 (Au7a1) (cu7a1) (s.ft 105 rfl) ((t_12 : Nat) : Int) r25 hr25) fun v30 a w hK hp s => ?_)
   obtain rfl := hp
   refine qq s rfl (y_pick_f s rfl rfl) fun a s => ?_
   apply wN
   exact ⟨(r25), hg, (s.sb rfl rfl rfl)⟩
  clear s a; rintro a w ⟨t_18, hg, s⟩
  subst hk17
  refine c_cond s rfl (fun hc32 => ?_) (fun hc32 => ?_)
  ·replace hg := br_t hg hc32
   apply wp_exit
   refine p_then ?_
   refine p_in ?_
   apply pN
   apply wL
   refine qq s rfl (y_addN (i := t_12) (j := 1) s rfl rfl (in64.2 (by omega))) fun a s => ?_
   refine mv s rfl rfl fun a s => ?_
   apply wN
   replace s := s.al 107 107 rfl
   exact ⟨m1, Nat.lt_succ_self _, ⟨(out_8), (t_12 + 1), (A9), (c10), (cs11), hg, (s.sb rfl rfl rfl)⟩⟩
  replace hg := br_n hg hc32
  apply wp_skip
  apply pN
  apply wQ
  obtain ⟨k33, hg, hk33⟩ := jn_some hg
  refine c_post (fun a w => ∃ (t_34 : Bool), k33 t_34 = some r ∧ St (⟨Tryz.f12.ntmps, M, noB, w0⟩ : Ctx) [(1, vP b2 0), (3, sl A9 (out_8) c10), (4, sl Au7a1 (r3) cu7a1), (5, vP b16 0), (10, vI ((((m_.Vars).length : Nat) : Int))), (11, vI (((t_12 : Nat) : Int))), (34, .bool (t_34))] [(1000, Ob.box b2 [vI (m_.Top), vI (m_.Index), sl Ap03 (m_.Vars) cp03, sl Ap04 (m_.Rels) cp04, sl Ap05 (m_.Cons) cp05] 26), (700106, Ob.row (A9) ((out_8).length) (c10) 3 1 (cs11))] [(101, slF Rep.str (Ap03) ((m_.Vars).length) (cp03) (m_.Vars)), (102, slF REP (Ap04) ((m_.Rels).length) (cp04) (m_.Rels)), (103, slF RQeq (Ap05) ((m_.Cons).length) (cp05) (m_.Cons)), (105, slF (Rep.num .i64) (Au7a1) ((r3).length) (cu7a1) (r3)), (107, rdF (Rep.num .i64) (cs11) (out_8)), (108, boxF b16 [vI (((t_12 : Nat) : Int))] 3)] a w) ?_ ?_
  ·rcases Decidable.em (((t_12 : Nat) : Int) = m_.Top) with hs35 | hs35
   ·have hs35e := decide_eq_true hs35
    replace hg := br_t hg hs35
    apply wL
    refine qq s rfl (y_loadBox1 (kk := 1501) s rfl rfl rfl underlying3 rfl) fun a s => ?_
    refine qq s rfl (y_boxField (o' := 0) s rfl underlying26 rfl rfl rfl) fun a s => ?_
    refine qq s rfl (y_loadBox1 (kk := 1000) s rfl rfl rfl underlying3 rfl) fun a s => ?_
    refine qq s rfl (yl_b (y_eql s rfl rfl) hs35e) fun a s => ?_
    refine mv s rfl rfl fun a s => ?_
    refine gn s rfl fun a s => ?_
    refine gn s rfl fun a s => ?_
    refine gn s rfl fun a s => ?_
    refine gn s rfl fun a s => ?_
    refine qq s rfl (y_pick_t s rfl rfl) fun a s => ?_
    apply wN
    replace s := s.freezeBox (L' := [(1000, Ob.box b2 [vI (m_.Top), vI (m_.Index), sl Ap03 (m_.Vars) cp03, sl Ap04 (m_.Rels) cp04, sl Ap05 (m_.Cons) cp05] 26), (700106, Ob.row (A9) ((out_8).length) (c10) 3 1 (cs11))]) 109 1501 rfl ⟨rfl, rfl, trivial⟩ rfl
    replace s := s.al 108 109 rfl
    exact ⟨(true), hg, (s.sb rfl rfl rfl)⟩
   have hs35e := decide_eq_false hs35
   replace hg := br_f hg hs35
   obtain ⟨r36, hr36, hg⟩ := bind_some hg
   apply wL
   refine qq s rfl (y_loadBox1 (kk := 1501) s rfl rfl rfl underlying3 rfl) fun a s => ?_
   refine qq s rfl (y_boxField (o' := 0) s rfl underlying26 rfl rfl rfl) fun a s => ?_
   refine qq s rfl (y_loadBox1 (kk := 1000) s rfl rfl rfl underlying3 rfl) fun a s => ?_
   refine qq s rfl (yl_b (y_eql s rfl rfl) hs35e) fun a s => ?_
   refine mv s rfl rfl fun a s => ?_
   refine gy s rfl (y_boxField (o' := 3) s rfl underlying26 rfl rfl rfl) fun a s => ?_
   refine gy s rfl (y_loadBox1 (kk := 1000) s rfl rfl rfl underlying23 rfl) fun a s => ?_
   replace s := s.freezeBox (L' := [(1000, Ob.box b2 [vI (m_.Top), vI (m_.Index), sl Ap03 (m_.Vars) cp03, sl Ap04 (m_.Rels) cp04, sl Ap05 (m_.Cons) cp05] 26), (700106, Ob.row (A9) ((out_8).length) (c10) 3 1 (cs11))]) 111 1501 rfl ⟨rfl, rfl, trivial⟩ rfl
   refine gy s rfl (y_makeFunc (xs := [.tmp 5]) (vs := [vP b16 0]) s rfl) fun a s => ?_
   refine gl s rfl (l_call (cap := []) s rfl func28 rfl (by kernel_rfl) rfl rfl (c_slices_ContainsFunc_EP n _ _ s.lt m_.Rels (Ap04) (cp04) (s.ft 102 rfl) (fun p => scope_Holes_1 n p ((t_12 : Nat) : Int)) (29) ([vP b16 0]) ⟨⟨_, _, func29, rfl, by kernel_rfl⟩, fun M1 w1 hk hm hlt vs x r hp hr => by obtain ⟨Aa3, ca3, rfl, la1, ha3⟩ := hp; exact c_scope_Holes_1 n M1 w1 hlt (x) Aa3 ca3 la1 ha3 b16 (((t_12 : Nat) : Int)) (Fact.move (boxF b16 [vI (((t_12 : Nat) : Int))] 3) hk hm (s.ft 111 rfl)) r hr⟩ r36 hr36) fun v39 a w hK hp s => ?_)
   obtain rfl := hp
   refine qq s rfl (y_pick_f s rfl rfl) fun a s => ?_
   apply wN
   replace s := s.al 108 111 rfl
   exact ⟨(r36), hg, (s.sb rfl rfl rfl)⟩
  clear s a; rintro a w ⟨t_34, hg, s⟩
  subst hk33
  refine c_cond s rfl (fun hc41 => ?_) (fun hc41 => ?_)
  ·replace hg := br_t hg hc41
   obtain ⟨hk43, hg⟩ := chk_some hg
   apply wL
   refine mv s rfl rfl fun a s => ?_
   refine qq s rfl (y_loadF1 s rfl (s.ft 108 rfl) rfl underlying3 rfl) fun a s => ?_
   refine l_seq rfl (l_buildDense (sz := 1) s 1802 rfl rfl rfl underlying30 rfl rfl rfl rfl rfl rfl rfl fun b46 a w hbb46 hK s => ?_)
   clear hbb46
   replace s := s.add 114 (rdF (Rep.num .i64) (cellsOfL [vI (((t_12 : Nat) : Int))]) ([((t_12 : Nat) : Int)])) (RdAll.cons (by exact rfl) (RdAll.nil _ _ _))
   have hs48 := row_src (s.wd.holds 1802 _ rfl) (RdAll.one (s.ft 114 rfl))
   refine l_seq rfl (l_append (sz := 1) (by_ := 8) (N := (out_8 ++ [((t_12 : Nat) : Int)]).length) (ys := cs11 ++ (cellsOfL [vI (((t_12 : Nat) : Int))])) s 700106 rfl rfl rfl underlying30 rfl rfl rfl rfl rfl hs48 (by simp) rfl (by have hr := hk43; clear hg; first | omega | (simp only [List.length_append, List.length_cons, List.length_nil] at hr ⊢; omega) | (simp at hr ⊢; omega)) (by have hr := hk43; clear hg; first | omega | (simp only [List.length_append, List.length_cons, List.length_nil] at hr ⊢; omega) | (simp at hr ⊢; omega)) rfl fun Aq47 cq47 a w hA hK s => ?_)
   replace s := s.add 115 (rdF (Rep.num .i64) (cs11 ++ (cellsOfL [vI (((t_12 : Nat) : Int))])) (out_8 ++ [((t_12 : Nat) : Int)])) (RdAll.append (s.ft 107 rfl) (s.ft 114 rfl))
   refine asg s rfl rfl fun a s => ?_
   apply wO
   refine p_inN ?_
   apply pN
   apply wL
   refine qq s rfl (y_addN (i := t_12) (j := 1) s rfl rfl (in64.2 (by omega))) fun a s => ?_
   refine mv s rfl rfl fun a s => ?_
   apply wN
   replace s := s.add 107 (rdF (Rep.num .i64) (cs11 ++ (cellsOfL [vI (((t_12 : Nat) : Int))])) (out_8 ++ [((t_12 : Nat) : Int)])) (s.ft 115 rfl)
   exact ⟨m1, Nat.lt_succ_self _, ⟨(out_8 ++ [((t_12 : Nat) : Int)]), (t_12 + 1), (Aq47), (cq47), (cs11 ++ (cellsOfL [vI (((t_12 : Nat) : Int))])), hg, (s.sb rfl rfl rfl)⟩⟩
  replace hg := br_n hg hc41
  apply wp_skip
  refine p_inN ?_
  apply pN
  apply wL
  refine qq s rfl (y_addN (i := t_12) (j := 1) s rfl rfl (in64.2 (by omega))) fun a s => ?_
  refine mv s rfl rfl fun a s => ?_
  apply wN
  replace s := s.al 107 107 rfl
  exact ⟨m1, Nat.lt_succ_self _, ⟨(out_8), (t_12 + 1), (A9), (c10), (cs11), hg, (s.sb rfl rfl rfl)⟩⟩
 replace hg := br_f hg hc13
 apply wp_exit
 refine p_then ?_
 refine p_then ?_
 refine p_in ?_
 apply pN
 apply wR
 refine mv s rfl rfl fun a s => ?_
 refine asg s rfl rfl fun a s => ?_
 apply wN
 apply wp_ret
 obtain rfl := Option.some.inj hg
 refine fin1 (fn := Tryz.f12) s rfl (r_tmp s rfl) ?_
 exact ⟨(A9), (c10), rfl, (s.rowOut (R := (Rep.num .i64)) (kk := 700106) rfl rfl (s.ft 107 rfl))⟩
set_option maxHeartbeats 400000 in
theorem c_scope_plugged (n : Nat) (M : Bs) (w0 : World) (hM : ∀ b, M b → b < w0.heap.size) (m_ : MRS) (Ap03 : Option Addr) (cp03 : Nat) (Ap04 : Option Addr) (cp04 : Nat) (Ap05 : Option Addr) (cp05 : Nat) (hp03 : SlR Rep.str M w0 Ap03 (m_.Vars).length cp03 (m_.Vars)) (hp04 : SlR REP M w0 Ap04 (m_.Rels).length cp04 (m_.Rels)) (hp05 : SlR RQeq M w0 Ap05 (m_.Cons).length cp05 (m_.Cons)) (plug_ : (List Int)) (Ap11 : Option Addr) (cp11 : Nat) (hp11 : SlR (Rep.num .i64) M w0 Ap11 (plug_).length cp11 (plug_)) (r : tree) (hg : scope_plugged n m_ plug_ = some r) :
    Calls Tryz.prog 33 [.agg #[.int .i64 (m_.Top), .int .i64 (m_.Index), .slice (Ap03) ((m_.Vars).length) (cp03), .slice (Ap04) ((m_.Rels).length) (cp04), .slice (Ap05) ((m_.Cons).length) (cp05)], .slice (Ap11) ((plug_).length) (cp11)].toArray w0 (Ret noB w0 fun v w => ∃ (Aa3 : Option Addr), ∃ (ca3 : Nat), ∃ (Aa4 : Option Addr), ∃ (ca4 : Nat), ∃ (Aa5 : Option Addr), ∃ (ca5 : Nat), ∃ (Aa6 : Option Addr), ∃ (ca6 : Nat), ∃ (Aa7 : Option Addr), ∃ (ca7 : Nat), v = .agg #[.int .i64 (r.m_.Top), .int .i64 (r.m_.Index), .slice (Aa3) ((r.m_.Vars).length) (ca3), .slice (Aa4) ((r.m_.Rels).length) (ca4), .slice (Aa5) ((r.m_.Cons).length) (ca5), .slice (Aa6) ((r.labels_).length) (ca6), .slice (Aa7) ((r.at_).length) (ca7)] ∧ (SlR Rep.str M w Aa3 (r.m_.Vars).length ca3 (r.m_.Vars)) ∧ (SlR REP M w Aa4 (r.m_.Rels).length ca4 (r.m_.Rels)) ∧ (SlR RQeq M w Aa5 (r.m_.Cons).length ca5 (r.m_.Cons)) ∧ (SlR (Rep.num .i64) M w Aa6 (r.labels_).length ca6 (r.labels_)) ∧ (SlR (Rep.num .i64) M w Aa7 (r.at_).length ca7 (r.at_))) := by
 unfold scope_plugged at hg
 refine enter M noB func33 rfl rfl hM ?_
 intro a s
 replace s := s.es 101 hp03
 replace s := s.es 102 hp04
 replace s := s.es 103 hp05
 replace s := s.es 104 hp11
 apply wR
 refine l_seq rfl (l_box (zs := [vI (m_.Top), vI (m_.Index), sl Ap03 (m_.Vars) cp03, sl Ap04 (m_.Rels) cp04, sl Ap05 (m_.Cons) cp05]) s 1000 rfl rfl rfl rfl fun b3 a w hb hK s => ?_)
 refine l_seq rfl (l_alloc (zs := [vI 0, vI 0, .slice (none) (0) (0), .slice (none) (0) (0), .slice (none) (0) (0), .slice (none) (0) (0), .slice (none) (0) (0)]) s 1001 rfl rfl rfl rfl fun b4 a w hb hK s => ?_)
 apply wN
 apply wQ
 obtain ⟨k5, hg, hk5⟩ := jn_some hg
 refine c_post (fun a w => ∃ (t_7 : (List Int)) (b6 : Nat) (A8 : Option Addr) (c9 : Nat), k5 t_7 = some r ∧ St (⟨Tryz.f33.ntmps, M, noB, w0⟩ : Ctx) [(1, sl Ap11 (plug_) cp11), (2, vP b3 0), (4, vP b4 0), (5, vP b6 0)] [(1000, Ob.box b3 [vI (m_.Top), vI (m_.Index), sl Ap03 (m_.Vars) cp03, sl Ap04 (m_.Rels) cp04, sl Ap05 (m_.Cons) cp05] 26), (1001, Ob.box b4 [vI 0, vI 0, .slice (none) (0) (0), .slice (none) (0) (0), .slice (none) (0) (0), .slice (none) (0) (0), .slice (none) (0) (0)] 56), (1104, Ob.box b6 [vI (m_.Top), vI (m_.Index), sl Ap03 (m_.Vars) cp03, sl Ap04 (m_.Rels) cp04, sl Ap05 (m_.Cons) cp05, sl A8 (t_7) c9, .slice (none) (0) (0)] 56)] [(101, slF Rep.str (Ap03) ((m_.Vars).length) (cp03) (m_.Vars)), (102, slF REP (Ap04) ((m_.Rels).length) (cp04) (m_.Rels)), (103, slF RQeq (Ap05) ((m_.Cons).length) (cp05) (m_.Cons)), (104, slF (Rep.num .i64) (Ap11) ((plug_).length) (cp11) (plug_)), (105, slF (Rep.num .i64) (A8) ((t_7).length) (c9) (t_7))] a w) ?_ ?_
 ·obtain ⟨r10, hr10, hg⟩ := bind_some hg
  refine d_steps s [] rfl ?_; clear s; intro wr hZ s; have hR := s.wd
  refine n_q 0 1000 s hR rfl (by kernel_rfl) (by kernel_rfl) (by kernel_rfl) rfl rfl rfl (y_loadAll (kk := 1000) s rfl rfl underlying26 rfl rfl) fun a s => ?_
  refine n_q 1 1000 s hR rfl (by kernel_rfl) (by kernel_rfl) (by kernel_rfl) rfl rfl rfl (y_loadAll (kk := 1000) s rfl rfl underlying26 rfl rfl) fun a s => ?_
  refine n_2 2 4 s (by kernel_rfl) rfl rfl rfl rfl ?_ ?_
  ·refine l_call (cap := []) s rfl func14 rfl (by kernel_rfl) rfl rfl (c_scope_Labels n _ _ s.lt m_ (Ap03) (cp03) (Ap04) (cp04) (Ap05) (cp05) (s.ft 101 rfl) (s.ft 102 rfl) (s.ft 103 rfl) r10 hr10) fun v14 a w hK hp s => ?_
   replace hZ := Nat.le_trans hZ hK.size; refine ⟨fun g _ h => h.grow hK, ?_⟩; clear hK
   obtain ⟨Au15a1, cu15a1, rfl, hu15a1⟩ := hp
   replace s := s.ns 107 hu15a1
   refine n_2 3 4 s (by kernel_rfl) rfl rfl rfl rfl ?_ ?_
   ·refine l_quiet s rfl rfl (y_build (parts := [(0, .tmp 10), (1, .tmp 12)]) (ps := [(0, .agg #[vI (m_.Top), vI (m_.Index), sl Ap03 (m_.Vars) cp03, sl Ap04 (m_.Rels) cp04, sl Ap05 (m_.Cons) cp05]), (1, sl Au15a1 (r10) cu15a1)]) (cells := #[vI (m_.Top), vI (m_.Index), sl Ap03 (m_.Vars) cp03, sl Ap04 (m_.Rels) cp04, sl Ap05 (m_.Cons) cp05, sl Au15a1 (r10) cu15a1, .slice (none) (0) (0)]) s rfl (by kernel_rfl)) fun a s => ?_; refine ⟨fun g _ h => h, ?_⟩
    refine n_1 4 s (by kernel_rfl) rfl rfl (l_alloc (zs := [vI 0, vI 0, .slice (none) (0) (0), .slice (none) (0) (0), .slice (none) (0) (0), .slice (none) (0) (0), .slice (none) (0) (0)]) s 1104 rfl rfl rfl rfl fun b16 a w hb hK s => ?_)
    have hNb16 := Nat.le_trans hZ hb
    replace hZ := Nat.le_trans hZ hK.size; refine ⟨fun g _ h => h.grow hK, ?_⟩; clear hK
    refine n_1 5 s (by kernel_rfl) rfl rfl (l_store (n := 7) (cs' := [vI (m_.Top), vI (m_.Index), sl Ap03 (m_.Vars) cp03, sl Ap04 (m_.Rels) cp04, sl Ap05 (m_.Cons) cp05, sl Au15a1 (r10) cu15a1, .slice (none) (0) (0)]) s 1104 rfl rfl rfl rfl rfl rfl rfl rfl ?_); clear s; intro w hK s; replace hZ := Nat.le_trans hZ hK.size
    refine ⟨fun g _ h => h.app hR hK (fun x e => by cases e; exact hNb16), ?_⟩; clear hK
    refine n_end (by kernel_rfl) ?_; clear hR hZ
    apply pN
    replace s := s.al 105 107 rfl
    exact ⟨(r10), (b16), (Au15a1), (cu15a1), hg, (s.sb rfl rfl rfl)⟩
   ·refine l_alloc (zs := [vI 0, vI 0, .slice (none) (0) (0), .slice (none) (0) (0), .slice (none) (0) (0), .slice (none) (0) (0), .slice (none) (0) (0)]) s 1104 rfl rfl rfl rfl fun b17 a w hb hK s => ?_
    have hNb17 := Nat.le_trans hZ hb
    replace hZ := Nat.le_trans hZ hK.size; refine ⟨fun g _ h => h.grow hK, ?_⟩; clear hK
    refine n_1 3 s (by kernel_rfl) rfl rfl (l_quiet s rfl rfl (y_build (parts := [(0, .tmp 10), (1, .tmp 12)]) (ps := [(0, .agg #[vI (m_.Top), vI (m_.Index), sl Ap03 (m_.Vars) cp03, sl Ap04 (m_.Rels) cp04, sl Ap05 (m_.Cons) cp05]), (1, sl Au15a1 (r10) cu15a1)]) (cells := #[vI (m_.Top), vI (m_.Index), sl Ap03 (m_.Vars) cp03, sl Ap04 (m_.Rels) cp04, sl Ap05 (m_.Cons) cp05, sl Au15a1 (r10) cu15a1, .slice (none) (0) (0)]) s rfl (by kernel_rfl)) fun a s => ?_); refine ⟨fun g _ h => h, ?_⟩
    refine n_1 5 s (by kernel_rfl) rfl rfl (l_store (n := 7) (cs' := [vI (m_.Top), vI (m_.Index), sl Ap03 (m_.Vars) cp03, sl Ap04 (m_.Rels) cp04, sl Ap05 (m_.Cons) cp05, sl Au15a1 (r10) cu15a1, .slice (none) (0) (0)]) s 1104 rfl rfl rfl rfl rfl rfl rfl rfl ?_); clear s; intro w hK s; replace hZ := Nat.le_trans hZ hK.size
    refine ⟨fun g _ h => h.app hR hK (fun x e => by cases e; exact hNb17), ?_⟩; clear hK
    refine n_end (by kernel_rfl) ?_; clear hR hZ
    apply pN
    replace s := s.al 105 107 rfl
    exact ⟨(r10), (b17), (Au15a1), (cu15a1), hg, (s.sb rfl rfl rfl)⟩
  ·refine l_alloc (zs := [vI 0, vI 0, .slice (none) (0) (0), .slice (none) (0) (0), .slice (none) (0) (0), .slice (none) (0) (0), .slice (none) (0) (0)]) s 1104 rfl rfl rfl rfl fun b18 a w hb hK s => ?_
   have hNb18 := Nat.le_trans hZ hb
   replace hZ := Nat.le_trans hZ hK.size; refine ⟨fun g _ h => h.grow hK, ?_⟩; clear hK
   refine n_1 2 s (by kernel_rfl) rfl rfl (l_call (cap := []) s rfl func14 rfl (by kernel_rfl) rfl rfl (c_scope_Labels n _ _ s.lt m_ (Ap03) (cp03) (Ap04) (cp04) (Ap05) (cp05) (s.ft 101 rfl) (s.ft 102 rfl) (s.ft 103 rfl) r10 hr10) fun v19 a w hK hp s => ?_)
   replace hZ := Nat.le_trans hZ hK.size; refine ⟨fun g _ h => h.grow hK, ?_⟩; clear hK
   obtain ⟨Au20a1, cu20a1, rfl, hu20a1⟩ := hp
   replace s := s.ns 108 hu20a1
   refine n_1 3 s (by kernel_rfl) rfl rfl (l_quiet s rfl rfl (y_build (parts := [(0, .tmp 10), (1, .tmp 12)]) (ps := [(0, .agg #[vI (m_.Top), vI (m_.Index), sl Ap03 (m_.Vars) cp03, sl Ap04 (m_.Rels) cp04, sl Ap05 (m_.Cons) cp05]), (1, sl Au20a1 (r10) cu20a1)]) (cells := #[vI (m_.Top), vI (m_.Index), sl Ap03 (m_.Vars) cp03, sl Ap04 (m_.Rels) cp04, sl Ap05 (m_.Cons) cp05, sl Au20a1 (r10) cu20a1, .slice (none) (0) (0)]) s rfl (by kernel_rfl)) fun a s => ?_); refine ⟨fun g _ h => h, ?_⟩
   refine n_1 5 s (by kernel_rfl) rfl rfl (l_store (n := 7) (cs' := [vI (m_.Top), vI (m_.Index), sl Ap03 (m_.Vars) cp03, sl Ap04 (m_.Rels) cp04, sl Ap05 (m_.Cons) cp05, sl Au20a1 (r10) cu20a1, .slice (none) (0) (0)]) s 1104 rfl rfl rfl rfl rfl rfl rfl rfl ?_); clear s; intro w hK s; replace hZ := Nat.le_trans hZ hK.size
   refine ⟨fun g _ h => h.app hR hK (fun x e => by cases e; exact hNb18), ?_⟩; clear hK
   refine n_end (by kernel_rfl) ?_; clear hR hZ
   apply pN
   replace s := s.al 105 108 rfl
   exact ⟨(r10), (b18), (Au20a1), (cu20a1), hg, (s.sb rfl rfl rfl)⟩
 clear s a; rintro a w ⟨t_7, b6, A8, c9, hg, s⟩
 subst hk5
 apply wQ
 apply wR
 refine qq s rfl (y_boxField (o' := 2) s rfl underlying26 rfl rfl rfl) fun a s => ?_
 refine qq s rfl (y_loadBox1 (kk := 1000) s rfl rfl rfl underlying22 rfl) fun a s => ?_
 refine qq s rfl (y_lenSlice s rfl underlying22) fun a s => ?_
 refine mv s rfl rfl fun a s => ?_
 apply wN
 obtain ⟨k21, hg, hk21⟩ := jn_some hg
 refine c_post (fun a w => ∃ (b_22 : (List Int)) (A23 : Option Addr) (c24 : Nat) (cs25 : List Value), k21 b_22 = some r ∧ St (⟨Tryz.f33.ntmps, M, noB, w0⟩ : Ctx) [(1, sl Ap11 (plug_) cp11), (2, vP b3 0), (4, vP b4 0), (5, vP b6 0)] [(1000, Ob.box b3 [vI (m_.Top), vI (m_.Index), sl Ap03 (m_.Vars) cp03, sl Ap04 (m_.Rels) cp04, sl Ap05 (m_.Cons) cp05] 26), (1001, Ob.box b4 [vI 0, vI 0, .slice (none) (0) (0), .slice (none) (0) (0), .slice (none) (0) (0), .slice (none) (0) (0), .slice (none) (0) (0)] 56), (1104, Ob.box b6 [vI (m_.Top), vI (m_.Index), sl Ap03 (m_.Vars) cp03, sl Ap04 (m_.Rels) cp04, sl Ap05 (m_.Cons) cp05, sl A8 (t_7) c9, sl A23 (b_22) c24] 56), (700109, Ob.row (A23) ((b_22).length) (c24) 3 1 (cs25))] [(101, slF Rep.str (Ap03) ((m_.Vars).length) (cp03) (m_.Vars)), (102, slF REP (Ap04) ((m_.Rels).length) (cp04) (m_.Rels)), (103, slF RQeq (Ap05) ((m_.Cons).length) (cp05) (m_.Cons)), (104, slF (Rep.num .i64) (Ap11) ((plug_).length) (cp11) (plug_)), (105, slF (Rep.num .i64) (A8) ((t_7).length) (c9) (t_7)), (110, rdF (Rep.num .i64) (cs25) (b_22))] a w) ?_ ?_
 ·apply wp_block
  replace s := s.nilRow 700111 3 1 rfl
  replace s := s.add 112 (rdF (Rep.num .i64) [] []) (RdAll.nil _ _ _)
  refine c_loop (σ := Nat) (fun m1 a w => ∃ (t_26 : Nat) (b_27 : (List Int)) (A28 : Option Addr) (c29 : Nat) (cs30 : List Value), scope_plugged_L0 n m_ t_7 k21 m1 t_26 b_27 = some r ∧ St (⟨Tryz.f33.ntmps, M, noB, w0⟩ : Ctx) [(1, sl Ap11 (plug_) cp11), (2, vP b3 0), (4, vP b4 0), (5, vP b6 0), (16, vI ((((m_.Vars).length : Nat) : Int))), (17, vI (((t_26 : Nat) : Int)))] [(1000, Ob.box b3 [vI (m_.Top), vI (m_.Index), sl Ap03 (m_.Vars) cp03, sl Ap04 (m_.Rels) cp04, sl Ap05 (m_.Cons) cp05] 26), (1001, Ob.box b4 [vI 0, vI 0, .slice (none) (0) (0), .slice (none) (0) (0), .slice (none) (0) (0), .slice (none) (0) (0), .slice (none) (0) (0)] 56), (1104, Ob.box b6 [vI (m_.Top), vI (m_.Index), sl Ap03 (m_.Vars) cp03, sl Ap04 (m_.Rels) cp04, sl Ap05 (m_.Cons) cp05, sl A8 (t_7) c9, sl A28 (b_27) c29] 56), (700111, Ob.row (A28) ((b_27).length) (c29) 3 1 (cs30))] [(101, slF Rep.str (Ap03) ((m_.Vars).length) (cp03) (m_.Vars)), (102, slF REP (Ap04) ((m_.Rels).length) (cp04) (m_.Rels)), (103, slF RQeq (Ap05) ((m_.Cons).length) (cp05) (m_.Cons)), (104, slF (Rep.num .i64) (Ap11) ((plug_).length) (cp11) (plug_)), (105, slF (Rep.num .i64) (A8) ((t_7).length) (c9) (t_7)), (112, rdF (Rep.num .i64) (cs30) (b_27))] a w) (fun m1 => m1) n ⟨(0), ([]), (none), (0), ([]), hg, (s.sb rfl rfl rfl)⟩ ?_
  clear s a; rintro m1 a w ⟨t_26, b_27, A28, c29, cs30, hg, s⟩
  rcases m1 with _ | m1
  ·rw [scope_plugged_L0] at hg; cases hg
  rw [scope_plugged_L0] at hg
  apply wR
  refine qq s rfl (y_lssN (i := t_26) (j := ((m_.Vars).length)) s rfl rfl) fun a s => ?_
  apply wN
  apply wQ
  refine c_dec s rfl (fun hc31 => ?_) (fun hc31 => ?_)
  ·replace hg := br_t hg hc31
   have hmx32 := SlR.mx (s.ft 101 rfl)
   apply wp_skip
   apply pN
   apply wQ
   apply wp_block
   apply wR
   refine mv s rfl rfl fun a s => ?_
   refine asg s rfl rfl fun a s => ?_
   apply wN
   apply wR
   refine asg s rfl rfl fun a s => ?_
   apply wN
   apply wQ
   apply wQ
   obtain ⟨r33, hr33, hg⟩ := bind_some hg
   apply wL
   refine qq s rfl (y_boxField (o' := 5) s rfl underlying56 rfl rfl rfl) fun a s => ?_
   refine qq s rfl (y_loadBox1 (kk := 1104) s rfl rfl rfl underlying30 rfl) fun a s => ?_
   refine mv s rfl rfl fun a s => ?_
   refine l_seq rfl (l_call (cap := []) s rfl func27 rfl (by kernel_rfl) rfl rfl (c_slices_Contains_int n _ _ s.lt t_7 (A8) (c9) (s.ft 105 rfl) ((t_26 : Nat) : Int) r33 hr33) fun v36 a w hK hp s => ?_)
   obtain rfl := hp
   apply wN
   obtain ⟨k38, hg, hk38⟩ := jn_some hg
   refine c_post (fun a w => ∃ (l_39 : Int), k38 l_39 = some r ∧ St (⟨Tryz.f33.ntmps, M, noB, w0⟩ : Ctx) [(1, sl Ap11 (plug_) cp11), (2, vP b3 0), (4, vP b4 0), (5, vP b6 0), (7, vI l_39), (16, vI ((((m_.Vars).length : Nat) : Int))), (17, vI (((t_26 : Nat) : Int)))] [(1000, Ob.box b3 [vI (m_.Top), vI (m_.Index), sl Ap03 (m_.Vars) cp03, sl Ap04 (m_.Rels) cp04, sl Ap05 (m_.Cons) cp05] 26), (1001, Ob.box b4 [vI 0, vI 0, .slice (none) (0) (0), .slice (none) (0) (0), .slice (none) (0) (0), .slice (none) (0) (0), .slice (none) (0) (0)] 56), (1104, Ob.box b6 [vI (m_.Top), vI (m_.Index), sl Ap03 (m_.Vars) cp03, sl Ap04 (m_.Rels) cp04, sl Ap05 (m_.Cons) cp05, sl A8 (t_7) c9, sl A28 (b_27) c29] 56), (700111, Ob.row (A28) ((b_27).length) (c29) 3 1 (cs30))] [(101, slF Rep.str (Ap03) ((m_.Vars).length) (cp03) (m_.Vars)), (102, slF REP (Ap04) ((m_.Rels).length) (cp04) (m_.Rels)), (103, slF RQeq (Ap05) ((m_.Cons).length) (cp05) (m_.Cons)), (104, slF (Rep.num .i64) (Ap11) ((plug_).length) (cp11) (plug_)), (105, slF (Rep.num .i64) (A8) ((t_7).length) (c9) (t_7)), (112, rdF (Rep.num .i64) (cs30) (b_27))] a w) ?_ ?_
   ·refine c_cond s rfl (fun hc40 => ?_) (fun hc40 => ?_)
    ·replace hg := br_t hg hc40
     apply wL
     refine mv s rfl rfl fun a s => ?_
     refine asg s rfl rfl fun a s => ?_
     apply wN
     exact ⟨(((t_26 : Nat) : Int)), hg, (s.sb rfl rfl rfl)⟩
    replace hg := br_n hg hc40
    apply wp_skip
    apply pN
    exact ⟨(-1), hg, (s.sb rfl rfl rfl)⟩
   clear s a; rintro a w ⟨l_39, hg, s⟩
   subst hk38
   obtain ⟨hk42, hg⟩ := chk_some hg
   apply wL
   refine qq s rfl (y_boxField (o' := 6) s rfl underlying56 rfl rfl rfl) fun a s => ?_
   refine qq s rfl (y_loadBox1 (kk := 1104) s rfl rfl rfl underlying30 rfl) fun a s => ?_
   refine mv s rfl rfl fun a s => ?_
   refine l_seq rfl (l_buildDense (sz := 1) s 1803 rfl rfl rfl underlying30 rfl rfl rfl rfl rfl rfl rfl fun b45 a w hbb45 hK s => ?_)
   clear hbb45
   replace s := s.add 115 (rdF (Rep.num .i64) (cellsOfL [vI l_39]) ([l_39])) (RdAll.cons (by exact rfl) (RdAll.nil _ _ _))
   have hs47 := row_src (s.wd.holds 1803 _ rfl) (RdAll.one (s.ft 115 rfl))
   refine l_seq rfl (l_append (sz := 1) (by_ := 8) (N := (b_27 ++ [l_39]).length) (ys := cs30 ++ (cellsOfL [vI l_39])) s 700111 rfl rfl rfl underlying30 rfl rfl rfl rfl rfl hs47 (by simp) rfl (by have hr := hk42; clear hg; first | omega | (simp only [List.length_append, List.length_cons, List.length_nil] at hr ⊢; omega) | (simp at hr ⊢; omega)) (by have hr := hk42; clear hg; first | omega | (simp only [List.length_append, List.length_cons, List.length_nil] at hr ⊢; omega) | (simp at hr ⊢; omega)) rfl fun Aq46 cq46 a w hA hK s => ?_)
   replace s := s.add 116 (rdF (Rep.num .i64) (cs30 ++ (cellsOfL [vI l_39])) (b_27 ++ [l_39])) (RdAll.append (s.ft 112 rfl) (s.ft 115 rfl))
   refine qq s rfl (y_boxField (o' := 6) s rfl underlying56 rfl rfl rfl) fun a s => ?_
   refine l_seq rfl (l_store (n := 1) (cs' := [vI (m_.Top), vI (m_.Index), sl Ap03 (m_.Vars) cp03, sl Ap04 (m_.Rels) cp04, sl Ap05 (m_.Cons) cp05, sl A8 (t_7) c9, sl Aq46 (b_27 ++ [l_39]) cq46]) s 1104 rfl rfl rfl rfl rfl rfl rfl rfl ?_); clear s; intro w hK s; clear hK
   apply wO
   refine p_inN ?_
   apply pN
   apply wL
   refine qq s rfl (y_addN (i := t_26) (j := 1) s rfl rfl (in64.2 (by omega))) fun a s => ?_
   refine mv s rfl rfl fun a s => ?_
   apply wN
   replace s := s.al 112 116 rfl
   exact ⟨m1, Nat.lt_succ_self _, ⟨(t_26 + 1), (b_27 ++ [l_39]), (Aq46), (cq46), (cs30 ++ (cellsOfL [vI l_39])), hg, (s.sb rfl rfl rfl)⟩⟩
  replace hg := br_f hg hc31
  apply wp_exit
  refine p_then ?_
  refine p_then ?_
  refine p_in ?_
  apply pN
  replace s := s.al 110 112 rfl
  replace s := s.pk [(1000, 1000), (1001, 1001), (1104, 1104), (700109, 700111)] (by decide)
  exact ⟨(b_27), (A28), (c29), (cs30), hg, (s.sb rfl rfl rfl)⟩
 clear s a; rintro a w ⟨b_22, A23, c24, cs25, hg, s⟩
 subst hk21
 apply wQ
 apply wQ
 obtain ⟨r48, hr48, hg⟩ := bind_some hg
 apply wL
 refine qq s rfl (y_loadAll (kk := 1000) s rfl rfl underlying26 rfl rfl) fun a s => ?_
 refine l_seq rfl (l_call (cap := []) s rfl func12 rfl (by kernel_rfl) rfl rfl (c_scope_Holes n _ _ s.lt m_ (Ap03) (cp03) (Ap04) (cp04) (Ap05) (cp05) (s.ft 101 rfl) (s.ft 102 rfl) (s.ft 103 rfl) r48 hr48) fun v51 a w hK hp s => ?_)
 obtain ⟨Au52a1, cu52a1, rfl, hu52a1⟩ := hp
 replace s := s.ns 118 hu52a1
 refine qq s rfl (y_lenSlice s rfl underlying30) fun a s => ?_
 refine mv s rfl rfl fun a s => ?_
 apply wN
 obtain ⟨k53, hg, hk53⟩ := jn_some hg
 refine c_post (fun a w => ∃ (b_54 : (List Int)) (A55 : Option Addr) (c56 : Nat) (cs57 : List Value), k53 b_54 = some r ∧ St (⟨Tryz.f33.ntmps, M, noB, w0⟩ : Ctx) [(4, vP b4 0), (5, vP b6 0)] [(1001, Ob.box b4 [vI 0, vI 0, .slice (none) (0) (0), .slice (none) (0) (0), .slice (none) (0) (0), .slice (none) (0) (0), .slice (none) (0) (0)] 56), (1104, Ob.box b6 [vI (m_.Top), vI (m_.Index), sl Ap03 (m_.Vars) cp03, sl Ap04 (m_.Rels) cp04, sl Ap05 (m_.Cons) cp05, sl A8 (t_7) c9, sl A55 (b_54) c56] 56), (700119, Ob.row (A55) ((b_54).length) (c56) 3 1 (cs57))] [(101, slF Rep.str (Ap03) ((m_.Vars).length) (cp03) (m_.Vars)), (102, slF REP (Ap04) ((m_.Rels).length) (cp04) (m_.Rels)), (103, slF RQeq (Ap05) ((m_.Cons).length) (cp05) (m_.Cons)), (105, slF (Rep.num .i64) (A8) ((t_7).length) (c9) (t_7)), (120, rdF (Rep.num .i64) (cs57) (b_54))] a w) ?_ ?_
 ·apply wp_block
  replace s := s.al 122 110 rfl
  replace s := s.pk [(1000, 1000), (1001, 1001), (1104, 1104), (700121, 700109)] (by decide)
  refine c_loop (σ := Nat) (fun m2 a w => ∃ (t_58 : Nat) (b_59 : (List Int)) (A60 : Option Addr) (c61 : Nat) (cs62 : List Value), scope_plugged_L1 n plug_ r48 k53 m2 t_58 b_59 = some r ∧ St (⟨Tryz.f33.ntmps, M, noB, w0⟩ : Ctx) [(1, sl Ap11 (plug_) cp11), (4, vP b4 0), (5, vP b6 0), (33, sl Au52a1 (r48) cu52a1), (34, vI ((((r48).length : Nat) : Int))), (35, vI (((t_58 : Nat) : Int)))] [(1001, Ob.box b4 [vI 0, vI 0, .slice (none) (0) (0), .slice (none) (0) (0), .slice (none) (0) (0), .slice (none) (0) (0), .slice (none) (0) (0)] 56), (1104, Ob.box b6 [vI (m_.Top), vI (m_.Index), sl Ap03 (m_.Vars) cp03, sl Ap04 (m_.Rels) cp04, sl Ap05 (m_.Cons) cp05, sl A8 (t_7) c9, sl A60 (b_59) c61] 56), (700121, Ob.row (A60) ((b_59).length) (c61) 3 1 (cs62))] [(101, slF Rep.str (Ap03) ((m_.Vars).length) (cp03) (m_.Vars)), (102, slF REP (Ap04) ((m_.Rels).length) (cp04) (m_.Rels)), (103, slF RQeq (Ap05) ((m_.Cons).length) (cp05) (m_.Cons)), (104, slF (Rep.num .i64) (Ap11) ((plug_).length) (cp11) (plug_)), (105, slF (Rep.num .i64) (A8) ((t_7).length) (c9) (t_7)), (118, slF (Rep.num .i64) (Au52a1) ((r48).length) (cu52a1) (r48)), (122, rdF (Rep.num .i64) (cs62) (b_59))] a w) (fun m2 => m2) n ⟨(0), (b_22), (A23), (c24), (cs25), hg, (s.sb rfl rfl rfl)⟩ ?_
  clear s a; rintro m2 a w ⟨t_58, b_59, A60, c61, cs62, hg, s⟩
  rcases m2 with _ | m2
  ·rw [scope_plugged_L1] at hg; cases hg
  rw [scope_plugged_L1] at hg
  apply wR
  refine qq s rfl (y_lssN (i := t_58) (j := ((r48).length)) s rfl rfl) fun a s => ?_
  apply wN
  apply wQ
  refine c_dec s rfl (fun hc63 => ?_) (fun hc63 => ?_)
  ·replace hg := br_t hg hc63
   have hmx64 := SlR.mx (s.ft 118 rfl)
   apply wp_skip
   apply pN
   apply wQ
   apply wp_block
   apply wQ
   obtain ⟨x66, hx66, hg⟩ := bind_some hg
   apply wL
   refine mv s rfl rfl fun a s => ?_
   obtain ⟨p68, hep68, hpp68⟩ := SlR.elemX (s.ft 118 rfl) hx66
   refine qq s rfl (y_elem (sz := 1) (i := t_58) s rfl rfl underlying30 rfl hep68 rfl (lt_of_get hx66)) fun a s => ?_
   obtain ⟨hlq69, hmq69, csq69, hdq69, hcq69⟩ := hpp68
   obtain rfl := hdq69
   refine qq s rfl (y_ldp1 s rfl hlq69 hmq69 (hcq69 0 _ rfl) underlying3 rfl) fun a s => ?_
   refine asg s rfl rfl fun a s => ?_
   refine asg s rfl rfl fun a s => ?_
   apply wN
   obtain ⟨x71, hx71, hg⟩ := bind_some hg
   obtain ⟨x74, hx74, hg⟩ := bind_some hg
   refine d_plan s [(8, 700121)] [(0, some 0), (1, some 1104), (2, some 0), (3, some 0), (4, some 0), (5, some 0), (6, some 0), (7, some 0), (8, none)] rfl (by kernel_rfl) (by kernel_rfl) rfl ?_; clear s; intro wr hZ s; have hR := s.wd
   refine qt s hR rfl (y_boxField (o' := 6) s rfl underlying56 rfl rfl rfl) fun a s => ?_
   refine qt s hR rfl (y_loadBox1 (kk := 1104) s rfl rfl rfl underlying30 rfl) fun a s => ?_
   refine qt s hR rfl (y_move s rfl) fun a s => ?_
   refine qt s hR rfl (y_move s rfl) fun a s => ?_
   refine qt s hR rfl (y_move s rfl) fun a s => ?_
   obtain ⟨p75, hep75, hpp75⟩ := SlR.elemX (s.ft 104 rfl) hx71
   refine qt s hR rfl (y_elem (sz := 1) (i := t_58) s rfl rfl underlying30 rfl hep75 rfl (lt_of_get hx71)) fun a s => ?_
   obtain ⟨hlq76, hmq76, csq76, hdq76, hcq76⟩ := hpp75
   obtain rfl := hdq76
   refine qt s hR rfl (y_ldp1 s rfl hlq76 hmq76 (hcq76 0 _ rfl) underlying3 rfl) fun a s => ?_
   obtain ⟨hiq77, bq77, hAq77⟩ := SlR.row1 (s.wd.holds 700121 _ rfl) (s.ft 122 rfl) rfl rfl (ix_some hx74).1
   refine qt s hR rfl (y_rowIndex (sz := 1) (i := ((x66).toNat)) s rfl rfl underlying30 rfl hAq77 (ix_some hx74).2.1 hiq77) fun a s => ?_
   have hzi := lt_of_get (ix_some hx74).1
   have hzn := rowN (s.wd.holds 700121 _ rfl) (s.ft 122 rfl) rfl rfl
   have hzf : ((x66).toNat) * 1 + 1 ≤ ((b_59).length) * 1 := by have := Nat.mul_le_mul_right 1 (Nat.succ_le_of_lt hzi); omega
   refine l_take s rfl rfl (l_storeRow (N := 1) (cs' := splice (cs62) (((x66).toNat) * 1) [vI x71]) s 700121 rfl rfl rfl hAq77 rfl rfl hzf rfl rfl ?_); clear s; intro w hK s; replace hZ := Nat.le_trans hZ hK.size
   refine ⟨fun g hg h => h.obj hR (kk := 700121) rfl hK (by rintro rfl; exact absurd hg (by decide)), ?_⟩; clear hK
   replace s := s.sub (l' := [(1, .slice (Ap11) ((plug_).length) (cp11)), (4, .pointer (some ⟨b4, 0, none⟩)), (5, .pointer (some ⟨b6, 0, none⟩)), (8, .int .i64 (((t_58 : Nat) : Int))), (9, .int .i64 (x66)), (33, .slice (Au52a1) ((r48).length) (cu52a1)), (34, .int .i64 ((((r48).length : Nat) : Int))), (35, .int .i64 (((t_58 : Nat) : Int))), (36, .bool (decide (t_58 < ((r48).length)))), (37, .int .i64 (((t_58 : Nat) : Int))), (38, .pointer (some (p68.add 0))), (39, .int .i64 (x66)), (40, .pointer (some ⟨b6, 6, none⟩)), (41, .slice (A60) ((b_59).length) (c61)), (42, .int .i64 (x66)), (43, .slice (Ap11) ((plug_).length) (cp11)), (44, .int .i64 (((t_58 : Nat) : Int))), (45, .pointer (some (p75.add 0))), (46, .int .i64 (x71)), (47, .pointer (some ⟨bq77, ((x66).toNat) * 1, none⟩))]) (L' := [(1001, Ob.box b4 [.int .i64 (0), .int .i64 (0), .slice (none) (0) (0), .slice (none) (0) (0), .slice (none) (0) (0), .slice (none) (0) (0), .slice (none) (0) (0)] 56), (1104, Ob.box b6 [.int .i64 (m_.Top), .int .i64 (m_.Index), .slice (Ap03) ((m_.Vars).length) (cp03), .slice (Ap04) ((m_.Rels).length) (cp04), .slice (Ap05) ((m_.Cons).length) (cp05), .slice (A8) ((t_7).length) (c9), .slice (A60) ((b_59).length) (c61)] 56), (700121, Ob.row (A60) ((b_59).length) (c61) 3 1 (splice (cs62) (((x66).toNat) * 1) [.int .i64 (x71)]))]) (D' := [(101, slF Rep.str (Ap03) ((m_.Vars).length) (cp03) (m_.Vars)), (102, slF REP (Ap04) ((m_.Rels).length) (cp04) (m_.Rels)), (103, slF RQeq (Ap05) ((m_.Cons).length) (cp05) (m_.Cons)), (104, slF (Rep.num .i64) (Ap11) ((plug_).length) (cp11) (plug_)), (105, slF (Rep.num .i64) (A8) ((t_7).length) (c9) (t_7)), (118, slF (Rep.num .i64) (Au52a1) ((r48).length) (cu52a1) (r48)), (122, rdF (Rep.num .i64) (cs62) (b_59))]) ⟨rfl, rfl, rfl, rfl, rfl, rfl, rfl, rfl, rfl, rfl, rfl, rfl, rfl, rfl, rfl, rfl, rfl, rfl, rfl, rfl, trivial⟩ ⟨rfl, rfl, rfl, trivial⟩ ⟨rfl, rfl, rfl, rfl, rfl, rfl, rfl, trivial⟩
   replace s := s.eqs (l' := [(1, .slice (Ap11) ((plug_).length) (cp11)), (4, .pointer (some ⟨b4, 0, none⟩)), (5, .pointer (some ⟨b6, 0, none⟩)), (8, .int .i64 (((t_58 : Nat) : Int))), (9, .int .i64 (x66)), (33, .slice (Au52a1) ((r48).length) (cu52a1)), (34, .int .i64 ((((r48).length : Nat) : Int))), (35, .int .i64 (((t_58 : Nat) : Int))), (36, .bool (decide (t_58 < ((r48).length)))), (37, .int .i64 (((t_58 : Nat) : Int))), (38, .pointer (some (p68.add 0))), (39, .int .i64 (x66)), (40, .pointer (some ⟨b6, 6, none⟩)), (41, .slice (A60) (((b_59).set ((x66).toNat) x71).length) (c61)), (42, .int .i64 (x66)), (43, .slice (Ap11) ((plug_).length) (cp11)), (44, .int .i64 (((t_58 : Nat) : Int))), (45, .pointer (some (p75.add 0))), (46, .int .i64 (x71)), (47, .pointer (some ⟨bq77, ((x66).toNat) * 1, none⟩))]) (L' := [(1001, Ob.box b4 [.int .i64 (0), .int .i64 (0), .slice (none) (0) (0), .slice (none) (0) (0), .slice (none) (0) (0), .slice (none) (0) (0), .slice (none) (0) (0)] 56), (1104, Ob.box b6 [.int .i64 (m_.Top), .int .i64 (m_.Index), .slice (Ap03) ((m_.Vars).length) (cp03), .slice (Ap04) ((m_.Rels).length) (cp04), .slice (Ap05) ((m_.Cons).length) (cp05), .slice (A8) ((t_7).length) (c9), .slice (A60) (((b_59).set ((x66).toNat) x71).length) (c61)] 56), (700121, Ob.row (A60) (((b_59).set ((x66).toNat) x71).length) (c61) 3 1 (splice (cs62) (((x66).toNat) * 1) [.int .i64 (x71)]))]) (by simp only [List.length_set]) (by simp only [List.length_set])
   replace s := s.add 124 (rdF (Rep.num .i64) (splice (cs62) (((x66).toNat) * 1) [vI x71]) ((b_59).set ((x66).toNat) x71)) (RdAll.put (s.ft 122 rfl) rfl hzi)
   clear hR hZ
   refine p_inN ?_
   apply pN
   apply wL
   refine qq s rfl (y_addN (i := t_58) (j := 1) s rfl rfl (in64.2 (by omega))) fun a s => ?_
   refine mv s rfl rfl fun a s => ?_
   apply wN
   replace s := s.add 122 (rdF (Rep.num .i64) (splice (cs62) (((x66).toNat) * 1) [vI x71]) ((b_59).set ((x66).toNat) x71)) (s.ft 124 rfl)
   exact ⟨m2, Nat.lt_succ_self _, ⟨(t_58 + 1), ((b_59).set ((x66).toNat) x71), (A60), (c61), (splice (cs62) (((x66).toNat) * 1) [vI x71]), hg, (s.sb rfl rfl rfl)⟩⟩
  replace hg := br_f hg hc63
  apply wp_exit
  refine p_then ?_
  refine p_then ?_
  refine p_in ?_
  apply pN
  replace s := s.al 120 122 rfl
  replace s := s.pk [(1001, 1001), (1104, 1104), (700119, 700121)] (by decide)
  exact ⟨(b_59), (A60), (c61), (cs62), hg, (s.sb rfl rfl rfl)⟩
 clear s a; rintro a w ⟨b_54, A55, c56, cs57, hg, s⟩
 subst hk53
 apply wR
 refine qq s rfl (y_loadAll (kk := 1104) s rfl rfl underlying56 rfl rfl) fun a s => ?_
 refine l_seq rfl (l_store (n := 7) (cs' := [vI (m_.Top), vI (m_.Index), sl Ap03 (m_.Vars) cp03, sl Ap04 (m_.Rels) cp04, sl Ap05 (m_.Cons) cp05, sl A8 (t_7) c9, sl A55 (b_54) c56]) s 1001 rfl rfl rfl rfl rfl rfl rfl rfl ?_); clear s; intro w hK s; clear hK
 apply wN
 apply wp_ret
 obtain rfl := Option.some.inj hg
 refine fin1 (fn := Tryz.f33) s rfl (r_cell (kk := 1001) (n := 7) (vs := [vI (m_.Top), vI (m_.Index), sl Ap03 (m_.Vars) cp03, sl Ap04 (m_.Rels) cp04, sl Ap05 (m_.Cons) cp05, sl A8 (t_7) c9, sl A55 (b_54) c56]) s rfl rfl underlying56 rfl rfl rfl rfl) ?_
 exact ⟨(Ap03), (cp03), (Ap04), (cp04), (Ap05), (cp05), (A8), (c9), (A55), (c56), rfl, (s.out (k := 101) rfl), (s.out (k := 102) rfl), (s.out (k := 103) rfl), (s.out (k := 105) rfl), (s.rowOut (R := (Rep.num .i64)) (kk := 700119) rfl rfl (s.ft 120 rfl))⟩
set_option maxHeartbeats 400000 in
theorem c_scope_tree_children (n : Nat) (M : Bs) (w0 : World) (hM : ∀ b, M b → b < w0.heap.size) (t_ : tree) (Ap03 : Option Addr) (cp03 : Nat) (Ap04 : Option Addr) (cp04 : Nat) (Ap05 : Option Addr) (cp05 : Nat) (Ap06 : Option Addr) (cp06 : Nat) (Ap07 : Option Addr) (cp07 : Nat) (hp03 : SlR Rep.str M w0 Ap03 (t_.m_.Vars).length cp03 (t_.m_.Vars)) (hp04 : SlR REP M w0 Ap04 (t_.m_.Rels).length cp04 (t_.m_.Rels)) (hp05 : SlR RQeq M w0 Ap05 (t_.m_.Cons).length cp05 (t_.m_.Cons)) (hp06 : SlR (Rep.num .i64) M w0 Ap06 (t_.labels_).length cp06 (t_.labels_)) (hp07 : SlR (Rep.num .i64) M w0 Ap07 (t_.at_).length cp07 (t_.at_)) (label_ : Int) (r : (List Int)) (hg : scope_tree_children n t_ label_ = some r) :
    Calls Tryz.prog 53 [.agg #[.int .i64 (t_.m_.Top), .int .i64 (t_.m_.Index), .slice (Ap03) ((t_.m_.Vars).length) (cp03), .slice (Ap04) ((t_.m_.Rels).length) (cp04), .slice (Ap05) ((t_.m_.Cons).length) (cp05), .slice (Ap06) ((t_.labels_).length) (cp06), .slice (Ap07) ((t_.at_).length) (cp07)], .int .i64 (label_)].toArray w0 (Ret noB w0 fun v w => ∃ (Aa1 : Option Addr), ∃ (ca1 : Nat), v = .slice (Aa1) ((r).length) (ca1) ∧ (SlR (Rep.num .i64) M w Aa1 (r).length ca1 (r))) := by
 unfold scope_tree_children at hg
 refine enter M noB func53 rfl rfl hM ?_
 intro a s
 replace s := s.es 101 hp03
 replace s := s.es 102 hp04
 replace s := s.es 103 hp05
 replace s := s.es 104 hp06
 replace s := s.es 105 hp07
 apply wR
 refine l_seq rfl (l_box (zs := [vI (t_.m_.Top), vI (t_.m_.Index), sl Ap03 (t_.m_.Vars) cp03, sl Ap04 (t_.m_.Rels) cp04, sl Ap05 (t_.m_.Cons) cp05, sl Ap06 (t_.labels_) cp06, sl Ap07 (t_.at_) cp07]) s 1000 rfl rfl rfl rfl fun b2 a w hb hK s => ?_)
 refine asg s rfl rfl fun a s => ?_
 apply wN
 apply wR
 refine asg s rfl rfl fun a s => ?_
 apply wN
 apply wQ
 apply wR
 refine qq s rfl (y_boxField (o' := 0) s rfl underlying56 rfl rfl rfl) fun a s => ?_
 refine qq s rfl (y_boxField (o' := 3) s rfl underlying26 rfl rfl rfl) fun a s => ?_
 refine qq s rfl (y_loadBox1 (kk := 1000) s rfl rfl rfl underlying23 rfl) fun a s => ?_
 refine qq s rfl (y_lenSlice s rfl underlying23) fun a s => ?_
 refine mv s rfl rfl fun a s => ?_
 apply wN
 apply wp_block
 replace s := s.nilRow 700106 3 1 rfl
 replace s := s.add 107 (rdF (Rep.num .i64) [] []) (RdAll.nil _ _ _)
 refine c_loop (σ := Nat) (fun m1 a w => ∃ (out_3 : (List Int)) (t_7 : Nat) (A4 : Option Addr) (c5 : Nat) (cs6 : List Value), scope_tree_children_L0 n t_ label_ m1 out_3 t_7 = some r ∧ St (⟨Tryz.f53.ntmps, M, noB, w0⟩ : Ctx) [(1, vI label_), (2, vP b2 0), (5, sl A4 (out_3) c5), (13, sl Ap04 (t_.m_.Rels) cp04), (14, vI ((((t_.m_.Rels).length : Nat) : Int))), (15, vI (((t_7 : Nat) : Int)))] [(1000, Ob.box b2 [vI (t_.m_.Top), vI (t_.m_.Index), sl Ap03 (t_.m_.Vars) cp03, sl Ap04 (t_.m_.Rels) cp04, sl Ap05 (t_.m_.Cons) cp05, sl Ap06 (t_.labels_) cp06, sl Ap07 (t_.at_) cp07] 56), (700106, Ob.row (A4) ((out_3).length) (c5) 3 1 (cs6))] [(101, slF Rep.str (Ap03) ((t_.m_.Vars).length) (cp03) (t_.m_.Vars)), (102, slF REP (Ap04) ((t_.m_.Rels).length) (cp04) (t_.m_.Rels)), (103, slF RQeq (Ap05) ((t_.m_.Cons).length) (cp05) (t_.m_.Cons)), (104, slF (Rep.num .i64) (Ap06) ((t_.labels_).length) (cp06) (t_.labels_)), (105, slF (Rep.num .i64) (Ap07) ((t_.at_).length) (cp07) (t_.at_)), (107, rdF (Rep.num .i64) (cs6) (out_3))] a w) (fun m1 => m1) n ⟨([]), (0), (none), (0), ([]), hg, (s.sb rfl rfl rfl)⟩ ?_
 clear s a; rintro m1 a w ⟨out_3, t_7, A4, c5, cs6, hg, s⟩
 rcases m1 with _ | m1
 ·rw [scope_tree_children_L0] at hg; cases hg
 rw [scope_tree_children_L0] at hg
 apply wR
 refine qq s rfl (y_lssN (i := t_7) (j := ((t_.m_.Rels).length)) s rfl rfl) fun a s => ?_
 apply wN
 apply wQ
 refine c_dec s rfl (fun hc8 => ?_) (fun hc8 => ?_)
 ·replace hg := br_t hg hc8
  have hmx9 := SlR.mx (s.ft 102 rfl)
  apply wp_skip
  apply pN
  apply wQ
  obtain ⟨k10, hg, hk10⟩ := jn_some hg
  refine c_post (fun a w => ∃ (out_11 : (List Int)) (A12 : Option Addr) (c13 : Nat) (cs14 : List Value), k10 out_11 = some r ∧ St (⟨Tryz.f53.ntmps, M, noB, w0⟩ : Ctx) [(1, vI label_), (2, vP b2 0), (5, sl A12 (out_11) c13), (13, sl Ap04 (t_.m_.Rels) cp04), (14, vI ((((t_.m_.Rels).length : Nat) : Int))), (15, vI (((t_7 : Nat) : Int)))] [(1000, Ob.box b2 [vI (t_.m_.Top), vI (t_.m_.Index), sl Ap03 (t_.m_.Vars) cp03, sl Ap04 (t_.m_.Rels) cp04, sl Ap05 (t_.m_.Cons) cp05, sl Ap06 (t_.labels_) cp06, sl Ap07 (t_.at_) cp07] 56), (700108, Ob.row (A12) ((out_11).length) (c13) 3 1 (cs14))] [(101, slF Rep.str (Ap03) ((t_.m_.Vars).length) (cp03) (t_.m_.Vars)), (102, slF REP (Ap04) ((t_.m_.Rels).length) (cp04) (t_.m_.Rels)), (103, slF RQeq (Ap05) ((t_.m_.Cons).length) (cp05) (t_.m_.Cons)), (104, slF (Rep.num .i64) (Ap06) ((t_.labels_).length) (cp06) (t_.labels_)), (105, slF (Rep.num .i64) (Ap07) ((t_.at_).length) (cp07) (t_.at_)), (109, rdF (Rep.num .i64) (cs14) (out_11))] a w) ?_ ?_
  ·apply wp_block
   apply wQ
   obtain ⟨x16, hx16, hg⟩ := bind_some hg
   apply wL
   obtain ⟨p19, hep19, hpp19⟩ := SlR.elemX (s.ft 102 rfl) hx16
   refine qq s rfl (y_elem (sz := 3) (i := t_7) s rfl rfl underlying23 rfl hep19 rfl (lt_of_get hx16)) fun a s => ?_
   obtain ⟨hlq20, hmq20, csq20, hdq20, hcq20⟩ := hpp19
   obtain ⟨Aq203, cq203, rfl, lq201, hq203⟩ := REP.open hdq20
   replace s := s.ns 111 hq203
   refine qq s rfl (y_ldp s rfl hlq20 hmq20 (by simpa using hcq20) underlying43 rfl rfl) fun a s => ?_
   refine l_seq rfl (l_alloc (zs := [vT ([]), vI 0, .slice (none) (0) (0)]) s 1402 rfl rfl rfl rfl fun b21 a w hb hK s => ?_)
   refine l_seq rfl (l_store (n := 3) (cs' := [vT (x16.Pred), vI (x16.Label), sl Aq203 (x16.Args) cq203]) s 1402 rfl rfl rfl rfl rfl rfl rfl rfl ?_); clear s; intro w hK s; clear hK
   apply wN
   apply wQ
   apply wR
   refine qq s rfl (y_boxField (o' := 1) s rfl underlying43 rfl rfl rfl) fun a s => ?_
   refine qq s rfl (y_loadBox1 (kk := 1402) s rfl rfl rfl underlying3 rfl) fun a s => ?_
   refine mv s rfl rfl fun a s => ?_
   refine qq s rfl (y_neq s rfl rfl) fun a s => ?_
   apply wN
   refine c_dec s rfl (fun hc22 => ?_) (fun hc22 => ?_)
   ·replace hg := br_t hg hc22
    apply wp_exit
    refine p_then ?_
    refine p_in ?_
    apply pN
    replace s := s.al 109 107 rfl
    replace s := s.pk [(1000, 1000), (1402, 1402), (700108, 700106)] (by decide)
    exact ⟨(out_3), (A4), (c5), (cs6), hg, (s.sb rfl rfl rfl)⟩
   replace hg := br_f hg hc22
   apply wp_skip
   apply pN
   apply wR
   refine qq s rfl (y_boxField (o' := 2) s rfl underlying43 rfl rfl rfl) fun a s => ?_
   refine qq s rfl (y_loadBox1 (kk := 1402) s rfl rfl rfl underlying41 rfl) fun a s => ?_
   refine qq s rfl (y_lenSlice s rfl underlying41) fun a s => ?_
   refine mv s rfl rfl fun a s => ?_
   apply wN
   apply wp_block
   replace s := s.al 113 107 rfl
   replace s := s.pk [(1000, 1000), (1402, 1402), (700112, 700106)] (by decide)
   refine c_loop (σ := Nat) (fun m2 a w => ∃ (out_23 : (List Int)) (t_27 : Nat) (A24 : Option Addr) (c25 : Nat) (cs26 : List Value), scope_tree_children_L1 n t_ k10 x16 m2 out_23 t_27 = some r ∧ St (⟨Tryz.f53.ntmps, M, noB, w0⟩ : Ctx) [(1, vI label_), (2, vP b2 0), (5, sl A24 (out_23) c25), (13, sl Ap04 (t_.m_.Rels) cp04), (14, vI ((((t_.m_.Rels).length : Nat) : Int))), (15, vI (((t_7 : Nat) : Int))), (24, sl Aq203 (x16.Args) cq203), (25, vI ((((x16.Args).length : Nat) : Int))), (26, vI (((t_27 : Nat) : Int)))] [(1000, Ob.box b2 [vI (t_.m_.Top), vI (t_.m_.Index), sl Ap03 (t_.m_.Vars) cp03, sl Ap04 (t_.m_.Rels) cp04, sl Ap05 (t_.m_.Cons) cp05, sl Ap06 (t_.labels_) cp06, sl Ap07 (t_.at_) cp07] 56), (700112, Ob.row (A24) ((out_23).length) (c25) 3 1 (cs26))] [(101, slF Rep.str (Ap03) ((t_.m_.Vars).length) (cp03) (t_.m_.Vars)), (102, slF REP (Ap04) ((t_.m_.Rels).length) (cp04) (t_.m_.Rels)), (103, slF RQeq (Ap05) ((t_.m_.Cons).length) (cp05) (t_.m_.Cons)), (104, slF (Rep.num .i64) (Ap06) ((t_.labels_).length) (cp06) (t_.labels_)), (105, slF (Rep.num .i64) (Ap07) ((t_.at_).length) (cp07) (t_.at_)), (111, slF RArg (Aq203) ((x16.Args).length) (cq203) (x16.Args)), (113, rdF (Rep.num .i64) (cs26) (out_23))] a w) (fun m2 => m2) n ⟨(out_3), (0), (A4), (c5), (cs6), hg, (s.sb rfl rfl rfl)⟩ ?_
   clear s a; rintro m2 a w ⟨out_23, t_27, A24, c25, cs26, hg, s⟩
   rcases m2 with _ | m2
   ·rw [scope_tree_children_L1] at hg; cases hg
   rw [scope_tree_children_L1] at hg
   apply wR
   refine qq s rfl (y_lssN (i := t_27) (j := ((x16.Args).length)) s rfl rfl) fun a s => ?_
   apply wN
   apply wQ
   refine c_dec s rfl (fun hc28 => ?_) (fun hc28 => ?_)
   ·replace hg := br_t hg hc28
    have hmx29 := SlR.mx (s.ft 111 rfl)
    apply wp_skip
    apply pN
    apply wQ
    apply wp_block
    apply wQ
    obtain ⟨x31, hx31, hg⟩ := bind_some hg
    apply wL
    obtain ⟨p34, hep34, hpp34⟩ := SlR.elemX (s.ft 111 rfl) hx31
    refine qq s rfl (y_elem (sz := 2) (i := t_27) s rfl rfl underlying41 rfl hep34 rfl (lt_of_get hx31)) fun a s => ?_
    obtain ⟨hlq35, hmq35, csq35, hdq35, hcq35⟩ := hpp34
    obtain ⟨rfl, lq351⟩ := RArg.open hdq35
    refine qq s rfl (y_ldp s rfl hlq35 hmq35 (by simpa using hcq35) underlying45 rfl rfl) fun a s => ?_
    refine l_seq rfl (l_alloc (zs := [vT ([]), vI 0]) s 1802 rfl rfl rfl rfl fun b36 a w hb hK s => ?_)
    refine l_seq rfl (l_store (n := 2) (cs' := [vT (x31.Role), vI (x31.Var)]) s 1802 rfl rfl rfl rfl rfl rfl rfl rfl ?_); clear s; intro w hK s; clear hK
    apply wN
    apply wQ
    obtain ⟨x38, hx38, hg⟩ := bind_some hg
    apply wL
    refine qq s rfl (y_boxField (o' := 6) s rfl underlying56 rfl rfl rfl) fun a s => ?_
    refine qq s rfl (y_loadBox1 (kk := 1000) s rfl rfl rfl underlying30 rfl) fun a s => ?_
    refine qq s rfl (y_boxField (o' := 1) s rfl underlying45 rfl rfl rfl) fun a s => ?_
    refine qq s rfl (y_loadBox1 (kk := 1802) s rfl rfl rfl underlying3 rfl) fun a s => ?_
    obtain ⟨p40, hep40, hpp40⟩ := SlR.elemX (s.ft 105 rfl) (ix_some hx38).1
    refine qq s rfl (y_elem (sz := 1) (i := ((x31.Var).toNat)) s rfl rfl underlying30 rfl hep40 (ix_some hx38).2.1 (lt_of_get (ix_some hx38).1)) fun a s => ?_
    obtain ⟨hlq41, hmq41, csq41, hdq41, hcq41⟩ := hpp40
    obtain rfl := hdq41
    refine qq s rfl (y_ldp1 s rfl hlq41 hmq41 (hcq41 0 _ rfl) underlying3 rfl) fun a s => ?_
    refine asg s rfl rfl fun a s => ?_
    apply wN
    apply wR
    refine mv s rfl rfl fun a s => ?_
    refine qq s rfl (y_geq s rfl rfl) fun a s => ?_
    apply wN
    refine c_dec s rfl (fun hc42 => ?_) (fun hc42 => ?_)
    ·replace hg := br_t hg hc42
     obtain ⟨hk44, hg⟩ := chk_some hg
     apply wL
     refine mv s rfl rfl fun a s => ?_
     refine mv s rfl rfl fun a s => ?_
     refine l_seq rfl (l_buildDense (sz := 1) s 2102 rfl rfl rfl underlying30 rfl rfl rfl rfl rfl rfl rfl fun b47 a w hbb47 hK s => ?_)
     clear hbb47
     replace s := s.add 116 (rdF (Rep.num .i64) (cellsOfL [vI x38]) ([x38])) (RdAll.cons (by exact rfl) (RdAll.nil _ _ _))
     have hs49 := row_src (s.wd.holds 2102 _ rfl) (RdAll.one (s.ft 116 rfl))
     refine l_seq rfl (l_append (sz := 1) (by_ := 8) (N := (out_23 ++ [x38]).length) (ys := cs26 ++ (cellsOfL [vI x38])) s 700112 rfl rfl rfl underlying30 rfl rfl rfl rfl rfl hs49 (by simp) rfl (by have hr := hk44; clear hg; first | omega | (simp only [List.length_append, List.length_cons, List.length_nil] at hr ⊢; omega) | (simp at hr ⊢; omega)) (by have hr := hk44; clear hg; first | omega | (simp only [List.length_append, List.length_cons, List.length_nil] at hr ⊢; omega) | (simp at hr ⊢; omega)) rfl fun Aq48 cq48 a w hA hK s => ?_)
     replace s := s.add 117 (rdF (Rep.num .i64) (cs26 ++ (cellsOfL [vI x38])) (out_23 ++ [x38])) (RdAll.append (s.ft 113 rfl) (s.ft 116 rfl))
     refine asg s rfl rfl fun a s => ?_
     apply wO
     refine p_inN ?_
     apply pN
     apply wL
     refine qq s rfl (y_addN (i := t_27) (j := 1) s rfl rfl (in64.2 (by omega))) fun a s => ?_
     refine mv s rfl rfl fun a s => ?_
     apply wN
     replace s := s.al 113 117 rfl
     exact ⟨m2, Nat.lt_succ_self _, ⟨(out_23 ++ [x38]), (t_27 + 1), (Aq48), (cq48), (cs26 ++ (cellsOfL [vI x38])), hg, (s.sb rfl rfl rfl)⟩⟩
    replace hg := br_f hg hc42
    apply wp_skip
    refine p_inN ?_
    apply pN
    apply wL
    refine qq s rfl (y_addN (i := t_27) (j := 1) s rfl rfl (in64.2 (by omega))) fun a s => ?_
    refine mv s rfl rfl fun a s => ?_
    apply wN
    replace s := s.al 113 113 rfl
    exact ⟨m2, Nat.lt_succ_self _, ⟨(out_23), (t_27 + 1), (A24), (c25), (cs26), hg, (s.sb rfl rfl rfl)⟩⟩
   replace hg := br_f hg hc28
   apply wp_exit
   refine p_then ?_
   refine p_then ?_
   refine p_in ?_
   refine p_inN ?_
   apply pN
   replace s := s.al 109 113 rfl
   replace s := s.pk [(1000, 1000), (700108, 700112)] (by decide)
   exact ⟨(out_23), (A24), (c25), (cs26), hg, (s.sb rfl rfl rfl)⟩
  clear s a; rintro a w ⟨out_11, A12, c13, cs14, hg, s⟩
  subst hk10
  apply wL
  refine qq s rfl (y_addN (i := t_7) (j := 1) s rfl rfl (in64.2 (by omega))) fun a s => ?_
  refine mv s rfl rfl fun a s => ?_
  apply wN
  replace s := s.al 107 109 rfl
  replace s := s.pk [(1000, 1000), (700106, 700108)] (by decide)
  exact ⟨m1, Nat.lt_succ_self _, ⟨(out_11), (t_7 + 1), (A12), (c13), (cs14), hg, (s.sb rfl rfl rfl)⟩⟩
 replace hg := br_f hg hc8
 apply wp_exit
 refine p_then ?_
 refine p_then ?_
 refine p_in ?_
 apply pN
 apply wR
 refine mv s rfl rfl fun a s => ?_
 refine asg s rfl rfl fun a s => ?_
 apply wN
 apply wp_ret
 obtain rfl := Option.some.inj hg
 refine fin1 (fn := Tryz.f53) s rfl (r_tmp s rfl) ?_
 exact ⟨(A4), (c5), rfl, (s.rowOut (R := (Rep.num .i64)) (kk := 700106) rfl rfl (s.ft 107 rfl))⟩
set_option maxHeartbeats 400000 in
theorem c_scope_tree_below (n : Nat) (M : Bs) (w0 : World) (hM : ∀ b, M b → b < w0.heap.size) (t_ : tree) (Ap03 : Option Addr) (cp03 : Nat) (Ap04 : Option Addr) (cp04 : Nat) (Ap05 : Option Addr) (cp05 : Nat) (Ap06 : Option Addr) (cp06 : Nat) (Ap07 : Option Addr) (cp07 : Nat) (hp03 : SlR Rep.str M w0 Ap03 (t_.m_.Vars).length cp03 (t_.m_.Vars)) (hp04 : SlR REP M w0 Ap04 (t_.m_.Rels).length cp04 (t_.m_.Rels)) (hp05 : SlR RQeq M w0 Ap05 (t_.m_.Cons).length cp05 (t_.m_.Cons)) (hp06 : SlR (Rep.num .i64) M w0 Ap06 (t_.labels_).length cp06 (t_.labels_)) (hp07 : SlR (Rep.num .i64) M w0 Ap07 (t_.at_).length cp07 (t_.at_)) (label_ : Int) (r : (List Int)) (hg : scope_tree_below n t_ label_ = some r) :
    Calls Tryz.prog 34 [.agg #[.int .i64 (t_.m_.Top), .int .i64 (t_.m_.Index), .slice (Ap03) ((t_.m_.Vars).length) (cp03), .slice (Ap04) ((t_.m_.Rels).length) (cp04), .slice (Ap05) ((t_.m_.Cons).length) (cp05), .slice (Ap06) ((t_.labels_).length) (cp06), .slice (Ap07) ((t_.at_).length) (cp07)], .int .i64 (label_)].toArray w0 (Ret noB w0 fun v w => ∃ (Aa1 : Option Addr), ∃ (ca1 : Nat), v = .slice (Aa1) ((r).length) (ca1) ∧ (SlR (Rep.num .i64) M w Aa1 (r).length ca1 (r))) := by
 unfold scope_tree_below at hg
 refine enter M noB func34 rfl rfl hM ?_
 intro a s
 replace s := s.es 101 hp03
 replace s := s.es 102 hp04
 replace s := s.es 103 hp05
 replace s := s.es 104 hp06
 replace s := s.es 105 hp07
 apply wR
 refine l_seq rfl (l_box (zs := [vI (t_.m_.Top), vI (t_.m_.Index), sl Ap03 (t_.m_.Vars) cp03, sl Ap04 (t_.m_.Rels) cp04, sl Ap05 (t_.m_.Cons) cp05, sl Ap06 (t_.labels_) cp06, sl Ap07 (t_.at_) cp07]) s 1000 rfl rfl rfl rfl fun b2 a w hb hK s => ?_)
 refine asg s rfl rfl fun a s => ?_
 apply wN
 apply wQ
 apply wQ
 obtain ⟨r3, hr3, hg⟩ := bind_some hg
 apply wL
 refine qq s rfl (y_boxField (o' := 5) s rfl underlying56 rfl rfl rfl) fun a s => ?_
 refine qq s rfl (y_loadBox1 (kk := 1000) s rfl rfl rfl underlying30 rfl) fun a s => ?_
 refine mv s rfl rfl fun a s => ?_
 refine l_seq rfl (l_call (cap := []) s rfl func27 rfl (by kernel_rfl) rfl rfl (c_slices_Contains_int n _ _ s.lt t_.labels_ (Ap06) (cp06) (s.ft 104 rfl) label_ r3 hr3) fun v6 a w hK hp s => ?_)
 obtain rfl := hp
 refine qq s rfl (y_not s rfl) fun a s => ?_
 apply wN
 refine c_cond s rfl (fun hc8 => ?_) (fun hc8 => ?_)
 ·replace hg := br_t hg hc8
  apply wR
  refine asg s rfl rfl fun a s => ?_
  apply wN
  apply wp_ret
  refine p_thenR ?_
  obtain rfl := Option.some.inj hg
  refine fin1 (fn := Tryz.f34) s rfl (r_tmp s rfl) ?_
  exact ⟨(none), (0), rfl, (SlR.nil_ _ _ _)⟩
 replace hg := br_n hg hc8
 apply wp_skip
 apply pN
 apply wR
 refine mv s rfl rfl fun a s => ?_
 refine l_seq rfl (l_buildDense (sz := 1) s 1301 rfl rfl rfl underlying30 rfl rfl rfl rfl rfl rfl rfl fun b10 a w hbb10 hK s => ?_)
 clear hbb10
 refine asg s rfl rfl fun a s => ?_
 apply wN
 apply wQ
 apply wR
 refine asg s rfl rfl fun a s => ?_
 apply wN
 obtain ⟨k11, hg, hk11⟩ := jn_some hg
 refine c_post (fun a w => ∃ (out_12 : (List Int)) (A13 : Option Addr) (c14 : Nat) (cs15 : List Value), k11 out_12 = some r ∧ St (⟨Tryz.f34.ntmps, M, noB, w0⟩ : Ctx) [(5, sl A13 (out_12) c14)] [(700106, Ob.row (A13) ((out_12).length) (c14) 3 1 (cs15))] [(107, rdF (Rep.num .i64) (cs15) (out_12))] a w) ?_ ?_
 ·apply wp_block
  replace s := s.add 110 (rdF (Rep.num .i64) (cellsOfL [vI label_]) ([label_])) (RdAll.cons (by exact rfl) (RdAll.nil _ _ _))
  replace s := s.al 109 110 rfl
  replace s := s.pk [(1000, 1000), (700108, 1301)] (by decide)
  refine c_loop (σ := Nat) (fun m1 a w => ∃ (out_16 : (List Int)) (i_20 : Nat) (A17 : Option Addr) (c18 : Nat) (cs19 : List Value), scope_tree_below_L0 n t_ k11 m1 out_16 i_20 = some r ∧ St (⟨Tryz.f34.ntmps, M, noB, w0⟩ : Ctx) [(2, vP b2 0), (5, sl A17 (out_16) c18), (6, vI (((i_20 : Nat) : Int)))] [(1000, Ob.box b2 [vI (t_.m_.Top), vI (t_.m_.Index), sl Ap03 (t_.m_.Vars) cp03, sl Ap04 (t_.m_.Rels) cp04, sl Ap05 (t_.m_.Cons) cp05, sl Ap06 (t_.labels_) cp06, sl Ap07 (t_.at_) cp07] 56), (700108, Ob.row (A17) ((out_16).length) (c18) 3 1 (cs19))] [(101, slF Rep.str (Ap03) ((t_.m_.Vars).length) (cp03) (t_.m_.Vars)), (102, slF REP (Ap04) ((t_.m_.Rels).length) (cp04) (t_.m_.Rels)), (103, slF RQeq (Ap05) ((t_.m_.Cons).length) (cp05) (t_.m_.Cons)), (104, slF (Rep.num .i64) (Ap06) ((t_.labels_).length) (cp06) (t_.labels_)), (105, slF (Rep.num .i64) (Ap07) ((t_.at_).length) (cp07) (t_.at_)), (109, rdF (Rep.num .i64) (cs19) (out_16))] a w) (fun m1 => m1) n ⟨([label_]), (0), (some ⟨b10, 0, none⟩), (1), (cellsOfL [vI label_]), hg, (s.sb rfl rfl rfl)⟩ ?_
  clear s a; rintro m1 a w ⟨out_16, i_20, A17, c18, cs19, hg, s⟩
  rcases m1 with _ | m1
  ·rw [scope_tree_below_L0] at hg; cases hg
  rw [scope_tree_below_L0] at hg
  apply wQ
  apply wR
  refine mv s rfl rfl fun a s => ?_
  refine mv s rfl rfl fun a s => ?_
  refine qq s rfl (y_lenSlice s rfl underlying30) fun a s => ?_
  refine qq s rfl (y_lssN (i := i_20) (j := ((out_16).length)) s rfl rfl) fun a s => ?_
  apply wN
  refine c_dec s rfl (fun hc21 => ?_) (fun hc21 => ?_)
  ·replace hg := br_t hg hc21
   have hmx22 := row_mx (s.wd.holds 700108 _ rfl)
   apply wp_skip
   apply pN
   apply wQ
   obtain ⟨k23, hg, hk23⟩ := jn_some hg
   refine c_post (fun a w => ∃ (out_24 : (List Int)) (A25 : Option Addr) (c26 : Nat) (cs27 : List Value), k23 out_24 = some r ∧ St (⟨Tryz.f34.ntmps, M, noB, w0⟩ : Ctx) [(2, vP b2 0), (5, sl A25 (out_24) c26), (6, vI (((i_20 : Nat) : Int)))] [(1000, Ob.box b2 [vI (t_.m_.Top), vI (t_.m_.Index), sl Ap03 (t_.m_.Vars) cp03, sl Ap04 (t_.m_.Rels) cp04, sl Ap05 (t_.m_.Cons) cp05, sl Ap06 (t_.labels_) cp06, sl Ap07 (t_.at_) cp07] 56), (700111, Ob.row (A25) ((out_24).length) (c26) 3 1 (cs27))] [(101, slF Rep.str (Ap03) ((t_.m_.Vars).length) (cp03) (t_.m_.Vars)), (102, slF REP (Ap04) ((t_.m_.Rels).length) (cp04) (t_.m_.Rels)), (103, slF RQeq (Ap05) ((t_.m_.Cons).length) (cp05) (t_.m_.Cons)), (104, slF (Rep.num .i64) (Ap06) ((t_.labels_).length) (cp06) (t_.labels_)), (105, slF (Rep.num .i64) (Ap07) ((t_.at_).length) (cp07) (t_.at_)), (112, rdF (Rep.num .i64) (cs27) (out_24))] a w) ?_ ?_
   ·apply wp_block
    apply wQ
    obtain ⟨x29, hx29, hg⟩ := bind_some hg
    obtain ⟨r31, hr31, hg⟩ := bind_some hg
    refine d_plan s [] [(0, some 1000), (1, some 0), (2, some 0), (3, some 0), (4, some 700108), (7, some 0), (5, none), (6, none)] rfl (by kernel_rfl) (by kernel_rfl) rfl ?_; clear s; intro wr hZ s; have hR := s.wd
    refine qt s hR rfl (y_loadAll (kk := 1000) s rfl rfl underlying56 rfl rfl) fun a s => ?_
    refine qt s hR rfl (y_move s rfl) fun a s => ?_
    refine qt s hR rfl (y_move s rfl) fun a s => ?_
    obtain ⟨hiq34, bq34, hAq34⟩ := SlR.row1 (s.wd.holds 700108 _ rfl) (s.ft 109 rfl) rfl rfl hx29
    refine qt s hR rfl (y_rowIndex (sz := 1) (i := i_20) s rfl rfl underlying30 rfl hAq34 rfl hiq34) fun a s => ?_
    have hz35 := (s.ft 109 rfl).at_ _ _ hx29
    have ez35 := hz35
    refine qt s hR rfl (y_loadRow1 (kk := 700108) s rfl rfl hAq34 (take1 ez35) underlying3 rfl) fun a s => ?_
    refine qt s hR rfl (y_move s rfl) fun a s => ?_
    refine l_take s rfl rfl (l_call (cap := []) s rfl func53 rfl (by kernel_rfl) rfl rfl (c_scope_tree_children n _ _ s.lt t_ (Ap03) (cp03) (Ap04) (cp04) (Ap05) (cp05) (Ap06) (cp06) (Ap07) (cp07) (s.ft 101 rfl) (s.ft 102 rfl) (s.ft 103 rfl) (s.ft 104 rfl) (s.ft 105 rfl) x29 r31 hr31) fun v36 a w hK hp s => ?_)
    replace hZ := Nat.le_trans hZ hK.size; refine ⟨fun g _ h => h.grow hK, ?_⟩; clear hK
    obtain ⟨Au37a1, cu37a1, rfl, hu37a1⟩ := hp
    replace s := s.ns 114 hu37a1
    refine l_take s rfl rfl (l_quiet s rfl rfl (y_lenSlice s rfl underlying30) fun a s => ?_); refine ⟨fun g _ h => h, ?_⟩
    clear hR hZ
    apply pN
    apply wp_block
    replace s := s.al 116 109 rfl
    replace s := s.pk [(1000, 1000), (700115, 700108)] (by decide)
    refine c_loop (σ := Nat) (fun m2 a w => ∃ (out_38 : (List Int)) (t_42 : Nat) (A39 : Option Addr) (c40 : Nat) (cs41 : List Value), scope_tree_below_L1 n k23 r31 m2 out_38 t_42 = some r ∧ St (⟨Tryz.f34.ntmps, M, noB, w0⟩ : Ctx) [(2, vP b2 0), (5, sl A39 (out_38) c40), (6, vI (((i_20 : Nat) : Int))), (27, sl Au37a1 (r31) cu37a1), (28, vI ((((r31).length : Nat) : Int))), (29, vI (((t_42 : Nat) : Int)))] [(1000, Ob.box b2 [vI (t_.m_.Top), vI (t_.m_.Index), sl Ap03 (t_.m_.Vars) cp03, sl Ap04 (t_.m_.Rels) cp04, sl Ap05 (t_.m_.Cons) cp05, sl Ap06 (t_.labels_) cp06, sl Ap07 (t_.at_) cp07] 56), (700115, Ob.row (A39) ((out_38).length) (c40) 3 1 (cs41))] [(101, slF Rep.str (Ap03) ((t_.m_.Vars).length) (cp03) (t_.m_.Vars)), (102, slF REP (Ap04) ((t_.m_.Rels).length) (cp04) (t_.m_.Rels)), (103, slF RQeq (Ap05) ((t_.m_.Cons).length) (cp05) (t_.m_.Cons)), (104, slF (Rep.num .i64) (Ap06) ((t_.labels_).length) (cp06) (t_.labels_)), (105, slF (Rep.num .i64) (Ap07) ((t_.at_).length) (cp07) (t_.at_)), (114, slF (Rep.num .i64) (Au37a1) ((r31).length) (cu37a1) (r31)), (116, rdF (Rep.num .i64) (cs41) (out_38))] a w) (fun m2 => m2) n ⟨(out_16), (0), (A17), (c18), (cs19), hg, (s.sb rfl rfl rfl)⟩ ?_
    clear s a; rintro m2 a w ⟨out_38, t_42, A39, c40, cs41, hg, s⟩
    rcases m2 with _ | m2
    ·rw [scope_tree_below_L1] at hg; cases hg
    rw [scope_tree_below_L1] at hg
    apply wR
    refine qq s rfl (y_lssN (i := t_42) (j := ((r31).length)) s rfl rfl) fun a s => ?_
    apply wN
    apply wQ
    refine c_dec s rfl (fun hc43 => ?_) (fun hc43 => ?_)
    ·replace hg := br_t hg hc43
     have hmx44 := SlR.mx (s.ft 114 rfl)
     apply wp_skip
     apply pN
     apply wQ
     apply wp_block
     apply wQ
     obtain ⟨x46, hx46, hg⟩ := bind_some hg
     apply wL
     obtain ⟨p48, hep48, hpp48⟩ := SlR.elemX (s.ft 114 rfl) hx46
     refine qq s rfl (y_elem (sz := 1) (i := t_42) s rfl rfl underlying30 rfl hep48 rfl (lt_of_get hx46)) fun a s => ?_
     obtain ⟨hlq49, hmq49, csq49, hdq49, hcq49⟩ := hpp48
     obtain rfl := hdq49
     refine qq s rfl (y_ldp1 s rfl hlq49 hmq49 (hcq49 0 _ rfl) underlying3 rfl) fun a s => ?_
     refine asg s rfl rfl fun a s => ?_
     apply wN
     apply wQ
     obtain ⟨r50, hr50, hg⟩ := bind_some hg
     apply wL
     refine mv s rfl rfl fun a s => ?_
     refine mv s rfl rfl fun a s => ?_
     have hT := s
     replace hT := hT.fz (R := (Rep.num .i64)) (kk := 700115) [1000] 118 rfl rfl (hT.ft 116 rfl) rfl
     refine l_seq rfl (l_call (cap := []) s rfl func27 rfl (by kernel_rfl) rfl rfl (c_slices_Contains_int n _ _ hT.lt out_38 (A39) (c40) (hT.ft 118 rfl) x46 r50 hr50) fun v53 a w hK hp s => ?_)
     obtain rfl := hp
     refine qq s rfl (y_not s rfl) fun a s => ?_
     apply wN
     refine c_cond s rfl (fun hc55 => ?_) (fun hc55 => ?_)
     ·replace hg := br_t hg hc55
      obtain ⟨hk57, hg⟩ := chk_some hg
      apply wL
      refine mv s rfl rfl fun a s => ?_
      refine mv s rfl rfl fun a s => ?_
      refine l_seq rfl (l_buildDense (sz := 1) s 2102 rfl rfl rfl underlying30 rfl rfl rfl rfl rfl rfl rfl fun b60 a w hbb60 hK s => ?_)
      clear hbb60
      replace s := s.add 121 (rdF (Rep.num .i64) (cellsOfL [vI x46]) ([x46])) (RdAll.cons (by exact rfl) (RdAll.nil _ _ _))
      have hs62 := row_src (s.wd.holds 2102 _ rfl) (RdAll.one (s.ft 121 rfl))
      refine l_seq rfl (l_append (sz := 1) (by_ := 8) (N := (out_38 ++ [x46]).length) (ys := cs41 ++ (cellsOfL [vI x46])) s 700115 rfl rfl rfl underlying30 rfl rfl rfl rfl rfl hs62 (by simp) rfl (by have hr := hk57; clear hg; first | omega | (simp only [List.length_append, List.length_cons, List.length_nil] at hr ⊢; omega) | (simp at hr ⊢; omega)) (by have hr := hk57; clear hg; first | omega | (simp only [List.length_append, List.length_cons, List.length_nil] at hr ⊢; omega) | (simp at hr ⊢; omega)) rfl fun Aq61 cq61 a w hA hK s => ?_)
      replace s := s.add 122 (rdF (Rep.num .i64) (cs41 ++ (cellsOfL [vI x46])) (out_38 ++ [x46])) (RdAll.append (s.ft 116 rfl) (s.ft 121 rfl))
      refine asg s rfl rfl fun a s => ?_
      apply wO
      refine p_inN ?_
      apply pN
      apply wL
      refine qq s rfl (y_addN (i := t_42) (j := 1) s rfl rfl (in64.2 (by omega))) fun a s => ?_
      refine mv s rfl rfl fun a s => ?_
      apply wN
      replace s := s.al 116 122 rfl
      exact ⟨m2, Nat.lt_succ_self _, ⟨(out_38 ++ [x46]), (t_42 + 1), (Aq61), (cq61), (cs41 ++ (cellsOfL [vI x46])), hg, (s.sb rfl rfl rfl)⟩⟩
     replace hg := br_n hg hc55
     apply wp_skip
     refine p_inN ?_
     apply pN
     apply wL
     refine qq s rfl (y_addN (i := t_42) (j := 1) s rfl rfl (in64.2 (by omega))) fun a s => ?_
     refine mv s rfl rfl fun a s => ?_
     apply wN
     replace s := s.al 116 116 rfl
     exact ⟨m2, Nat.lt_succ_self _, ⟨(out_38), (t_42 + 1), (A39), (c40), (cs41), hg, (s.sb rfl rfl rfl)⟩⟩
    replace hg := br_f hg hc43
    apply wp_exit
    refine p_then ?_
    refine p_then ?_
    refine p_in ?_
    refine p_inN ?_
    apply pN
    replace s := s.al 112 116 rfl
    replace s := s.pk [(1000, 1000), (700111, 700115)] (by decide)
    exact ⟨(out_38), (A39), (c40), (cs41), hg, (s.sb rfl rfl rfl)⟩
   clear s a; rintro a w ⟨out_24, A25, c26, cs27, hg, s⟩
   subst hk23
   apply wL
   refine mv s rfl rfl fun a s => ?_
   refine qq s rfl (y_addN (i := i_20) (j := 1) s rfl rfl (in64.2 (by omega))) fun a s => ?_
   refine asg s rfl rfl fun a s => ?_
   apply wN
   replace s := s.al 109 112 rfl
   replace s := s.pk [(1000, 1000), (700108, 700111)] (by decide)
   exact ⟨m1, Nat.lt_succ_self _, ⟨(out_24), (i_20 + 1), (A25), (c26), (cs27), hg, (s.sb rfl rfl rfl)⟩⟩
  replace hg := br_f hg hc21
  apply wp_exit
  refine p_then ?_
  refine p_then ?_
  refine p_in ?_
  apply pN
  replace s := s.al 107 109 rfl
  replace s := s.pk [(1000, 1000), (700106, 700108)] (by decide)
  exact ⟨(out_16), (A17), (c18), (cs19), hg, (s.sb rfl rfl rfl)⟩
 clear s a; rintro a w ⟨out_12, A13, c14, cs15, hg, s⟩
 subst hk11
 apply wQ
 obtain ⟨r63, hr63, hg⟩ := bind_some hg
 apply wL
 refine mv s rfl rfl fun a s => ?_
 have hT := s.pk [(9200000, 700106)] (by decide)
 replace hT := hT.al 9300000 107 rfl
 refine l_seq rfl (l_callMut (cap := []) hT _ [] (sbA (by rfl)) trivial (by rfl) rfl func54 rfl (by kernel_rfl) rfl rfl (c_slices_Sort_int n _ _ (hT.restLt []) _ out_12 (A13) (c14) (cs15) (hT.wd.lendL _ _ _ (sbA (by rfl)) (keep_sub []) (by rfl) (sbA (by rfl))) r63 hr63) ?_); intro v66 a' w' hK hp hF
 obtain ⟨csm0_0u67, rfl, hWu67⟩ := hp
 have hS2 := St.mk hF (hT.wd.back (sbA (by rfl)) (keep_sub []) (by rfl) hWu67 (by rfl))
 clear s hT hF hWu67 hK; revert hS2; revert w'; revert a'; intro a w s
 replace s := s.al 124 9300000 rfl
 replace s := s.ren [(700106, Ob.row (A13) ((out_12).length) (c14) 3 1 (csm0_0u67))] [9200000] ⟨rfl, trivial⟩ (by decide)
 replace s := s.sub (l' := [(5, .slice (A13) ((out_12).length) (c14)), (42, .slice (A13) ((out_12).length) (c14)), (43, .tuple #[])]) (L' := [(700106, Ob.row (A13) ((out_12).length) (c14) 3 1 (csm0_0u67))]) (D' := [(107, rdF (Rep.num .i64) (cs15) (out_12)), (124, rdF (Rep.num .i64) (csm0_0u67) (r63))]) ⟨rfl, rfl, rfl, trivial⟩ ⟨rfl, trivial⟩ ⟨rfl, rfl, trivial⟩
 have hrlu670 := rowN (s.wd.holds 700106 _ rfl) (s.ft 124 rfl) rfl rfl
 replace s := s.eqs (l' := [(5, .slice (A13) ((r63).length) (c14)), (42, .slice (A13) ((r63).length) (c14)), (43, .tuple #[])]) (L' := [(700106, Ob.row (A13) ((r63).length) (c14) 3 1 (csm0_0u67))]) (by simp only [hrlu670]) (by simp only [hrlu670])
 apply wN
 apply wR
 refine mv s rfl rfl fun a s => ?_
 refine asg s rfl rfl fun a s => ?_
 apply wN
 apply wp_ret
 obtain rfl := Option.some.inj hg
 refine fin1 (fn := Tryz.f34) s rfl (r_tmp s rfl) ?_
 exact ⟨(A13), (c14), rfl, (s.rowOut (R := (Rep.num .i64)) (kk := 700106) rfl rfl (s.ft 124 rfl))⟩
set_option maxHeartbeats 400000 in
theorem c_scope_Below (n : Nat) (M : Bs) (w0 : World) (hM : ∀ b, M b → b < w0.heap.size) (m_ : MRS) (Ap03 : Option Addr) (cp03 : Nat) (Ap04 : Option Addr) (cp04 : Nat) (Ap05 : Option Addr) (cp05 : Nat) (hp03 : SlR Rep.str M w0 Ap03 (m_.Vars).length cp03 (m_.Vars)) (hp04 : SlR REP M w0 Ap04 (m_.Rels).length cp04 (m_.Rels)) (hp05 : SlR RQeq M w0 Ap05 (m_.Cons).length cp05 (m_.Cons)) (plug_ : (List Int)) (Ap11 : Option Addr) (cp11 : Nat) (hp11 : SlR (Rep.num .i64) M w0 Ap11 (plug_).length cp11 (plug_)) (label_ : Int) (r : (List Int)) (hg : scope_Below n m_ plug_ label_ = some r) :
    Calls Tryz.prog 17 [.agg #[.int .i64 (m_.Top), .int .i64 (m_.Index), .slice (Ap03) ((m_.Vars).length) (cp03), .slice (Ap04) ((m_.Rels).length) (cp04), .slice (Ap05) ((m_.Cons).length) (cp05)], .slice (Ap11) ((plug_).length) (cp11), .int .i64 (label_)].toArray w0 (Ret noB w0 fun v w => ∃ (Aa1 : Option Addr), ∃ (ca1 : Nat), v = .slice (Aa1) ((r).length) (ca1) ∧ (SlR (Rep.num .i64) M w Aa1 (r).length ca1 (r))) := by
 unfold scope_Below at hg
 refine enter M noB func17 rfl rfl hM ?_
 intro a s
 replace s := s.es 101 hp03
 replace s := s.es 102 hp04
 replace s := s.es 103 hp05
 replace s := s.es 104 hp11
 apply wR
 refine l_seq rfl (l_box (zs := [vI (m_.Top), vI (m_.Index), sl Ap03 (m_.Vars) cp03, sl Ap04 (m_.Rels) cp04, sl Ap05 (m_.Cons) cp05]) s 1000 rfl rfl rfl rfl fun b2 a w hb hK s => ?_)
 refine asg s rfl rfl fun a s => ?_
 apply wN
 apply wQ
 obtain ⟨r3, hr3, hg⟩ := bind_some hg
 obtain ⟨r6, hr6, hg⟩ := bind_some hg
 apply wL
 refine qq s rfl (y_loadAll (kk := 1000) s rfl rfl underlying26 rfl rfl) fun a s => ?_
 refine mv s rfl rfl fun a s => ?_
 refine l_seq rfl (l_call (cap := []) s rfl func33 rfl (by kernel_rfl) rfl rfl (c_scope_plugged n _ _ s.lt m_ (Ap03) (cp03) (Ap04) (cp04) (Ap05) (cp05) (s.ft 101 rfl) (s.ft 102 rfl) (s.ft 103 rfl) plug_ (Ap11) (cp11) (s.ft 104 rfl) r3 hr3) fun v9 a w hK hp s => ?_)
 obtain ⟨Au10a3, cu10a3, Au10a4, cu10a4, Au10a5, cu10a5, Au10a6, cu10a6, Au10a7, cu10a7, rfl, hu10a3, hu10a4, hu10a5, hu10a6, hu10a7⟩ := hp
 replace s := s.ns 111 hu10a3
 replace s := s.ns 112 hu10a4
 replace s := s.ns 113 hu10a5
 replace s := s.ns 114 hu10a6
 replace s := s.ns 115 hu10a7
 refine mv s rfl rfl fun a s => ?_
 refine l_seq rfl (l_call (cap := []) s rfl func34 rfl (by kernel_rfl) rfl rfl (c_scope_tree_below n _ _ s.lt r3 (Au10a3) (cu10a3) (Au10a4) (cu10a4) (Au10a5) (cu10a5) (Au10a6) (cu10a6) (Au10a7) (cu10a7) (s.ft 111 rfl) (s.ft 112 rfl) (s.ft 113 rfl) (s.ft 114 rfl) (s.ft 115 rfl) label_ r6 hr6) fun v11 a w hK hp s => ?_)
 obtain ⟨Au12a1, cu12a1, rfl, hu12a1⟩ := hp
 replace s := s.ns 116 hu12a1
 refine asg s rfl rfl fun a s => ?_
 apply wN
 apply wp_ret
 obtain rfl := Option.some.inj hg
 refine fin1 (fn := Tryz.f17) s rfl (r_tmp s rfl) ?_
 exact ⟨(Au12a1), (cu12a1), rfl, (s.out (k := 116) rfl)⟩
end Go.Proofs.YtegboboemepifaaGreatDoor

