/- Chapter 03: the walks, part 6 -/
import Derived.Test.YtoeolfnjblibpaaW5
namespace Go.Proofs.Ytoeolfnjblibpaa
open Go.Gl Go.RowKit Try
set_option linter.unusedVariables false
set_option linter.unusedSimpArgs false
set_option maxRecDepth 4000

set_option maxHeartbeats 400000 in
theorem c_r01_upper (n : Nat) (M : Bs) (w0 : World) (hM : ∀ b, M b → b < w0.heap.size) (c_ : UInt8) (r : Bool) (hg : r01_upper n c_ = some r) :
    Calls Try.prog 81 [.int .u8 (((c_.toNat : Nat) : Int))].toArray w0 (Ret noB w0 fun v w => v = .bool (r)) := by
 unfold r01_upper at hg
 refine enter M noB func81 rfl rfl hM ?_
 intro a s
 apply wR
 refine asg s rfl rfl fun a s => ?_
 apply wN
 apply wQ
 rcases Decidable.em ((65 : Nat) ≤ c_.toNat) with hs1 | hs1
 ·have hs1e := decide_eq_true hs1
  replace hg := br_t hg hs1
  apply wL
  refine mv s rfl rfl fun a s => ?_
  refine qq s rfl (yl_b (y_geqN (i := c_.toNat) (j := 65) s rfl rfl) hs1e) fun a s => ?_
  refine mv s rfl rfl fun a s => ?_
  refine gm s rfl rfl fun a s => ?_
  refine gy s rfl (y_leqN (i := c_.toNat) (j := 90) s rfl rfl) fun a s => ?_
  refine qq s rfl (y_pick_t s rfl rfl) fun a s => ?_
  refine asg s rfl rfl fun a s => ?_
  apply wN
  apply wp_ret
  obtain rfl := Option.some.inj hg
  refine fin1 (fn := Try.f81) s rfl (r_tmp s rfl) ?_
  exact rfl
 have hs1e := decide_eq_false hs1
 replace hg := br_f hg hs1
 apply wL
 refine mv s rfl rfl fun a s => ?_
 refine qq s rfl (yl_b (y_geqN (i := c_.toNat) (j := 65) s rfl rfl) hs1e) fun a s => ?_
 refine mv s rfl rfl fun a s => ?_
 refine gn s rfl fun a s => ?_
 refine gn s rfl fun a s => ?_
 refine qq s rfl (y_pick_f s rfl rfl) fun a s => ?_
 refine asg s rfl rfl fun a s => ?_
 apply wN
 apply wp_ret
 obtain rfl := Option.some.inj hg
 refine fin1 (fn := Try.f81) s rfl (r_tmp s rfl) ?_
 exact rfl
set_option maxHeartbeats 400000 in
theorem c_r01_lower (n : Nat) (M : Bs) (w0 : World) (hM : ∀ b, M b → b < w0.heap.size) (c_ : UInt8) (r : Bool) (hg : r01_lower n c_ = some r) :
    Calls Try.prog 82 [.int .u8 (((c_.toNat : Nat) : Int))].toArray w0 (Ret noB w0 fun v w => v = .bool (r)) := by
 unfold r01_lower at hg
 refine enter M noB func82 rfl rfl hM ?_
 intro a s
 apply wR
 refine asg s rfl rfl fun a s => ?_
 apply wN
 apply wQ
 rcases Decidable.em ((97 : Nat) ≤ c_.toNat) with hs1 | hs1
 ·have hs1e := decide_eq_true hs1
  replace hg := br_t hg hs1
  apply wL
  refine mv s rfl rfl fun a s => ?_
  refine qq s rfl (yl_b (y_geqN (i := c_.toNat) (j := 97) s rfl rfl) hs1e) fun a s => ?_
  refine mv s rfl rfl fun a s => ?_
  refine gm s rfl rfl fun a s => ?_
  refine gy s rfl (y_leqN (i := c_.toNat) (j := 122) s rfl rfl) fun a s => ?_
  refine qq s rfl (y_pick_t s rfl rfl) fun a s => ?_
  refine asg s rfl rfl fun a s => ?_
  apply wN
  apply wp_ret
  obtain rfl := Option.some.inj hg
  refine fin1 (fn := Try.f82) s rfl (r_tmp s rfl) ?_
  exact rfl
 have hs1e := decide_eq_false hs1
 replace hg := br_f hg hs1
 apply wL
 refine mv s rfl rfl fun a s => ?_
 refine qq s rfl (yl_b (y_geqN (i := c_.toNat) (j := 97) s rfl rfl) hs1e) fun a s => ?_
 refine mv s rfl rfl fun a s => ?_
 refine gn s rfl fun a s => ?_
 refine gn s rfl fun a s => ?_
 refine qq s rfl (y_pick_f s rfl rfl) fun a s => ?_
 refine asg s rfl rfl fun a s => ?_
 apply wN
 apply wp_ret
 obtain rfl := Option.some.inj hg
 refine fin1 (fn := Try.f82) s rfl (r_tmp s rfl) ?_
 exact rfl
set_option maxHeartbeats 400000 in
theorem c_r01_part (n : Nat) (M : Bs) (w0 : World) (hM : ∀ b, M b → b < w0.heap.size) (c_ : UInt8) (big_ : Bool) (r : Bool) (hg : r01_part n c_ big_ = some r) :
    Calls Try.prog 69 [.int .u8 (((c_.toNat : Nat) : Int)), .bool (big_)].toArray w0 (Ret noB w0 fun v w => v = .bool (r)) := by
 unfold r01_part at hg
 refine enter M noB func69 rfl rfl hM ?_
 intro a s
 apply wR
 refine asg s rfl rfl fun a s => ?_
 apply wN
 apply wQ
 obtain ⟨r1, hr1, hg⟩ := bind_some hg
 rcases Bool.eq_false_or_eq_true (r1) with hs4 | hs4
 ·replace hg := br_t hg hs4
  apply wL
  refine mv s rfl rfl fun a s => ?_
  refine l_seq rfl (l_call (cap := []) s rfl func68 rfl (by kernel_rfl) rfl rfl (c_r01_digit n _ _ s.lt c_ r1 hr1) fun v5 a w hK hp s => ?_)
  obtain rfl := hp.trans (congrArg Value.bool hs4)
  refine mv s rfl rfl fun a s => ?_
  refine gn s rfl fun a s => ?_
  refine gn s rfl fun a s => ?_
  refine qq s rfl (y_pick_t s rfl rfl) fun a s => ?_
  refine mv s rfl rfl fun a s => ?_
  refine gn s rfl fun a s => ?_
  refine gn s rfl fun a s => ?_
  refine gn s rfl fun a s => ?_
  refine gn s rfl fun a s => ?_
  refine gn s rfl fun a s => ?_
  refine qq s rfl (y_pick_t s rfl rfl) fun a s => ?_
  refine mv s rfl rfl fun a s => ?_
  refine gn s rfl fun a s => ?_
  refine gn s rfl fun a s => ?_
  refine gn s rfl fun a s => ?_
  refine gn s rfl fun a s => ?_
  refine gn s rfl fun a s => ?_
  refine gn s rfl fun a s => ?_
  refine qq s rfl (y_pick_t s rfl rfl) fun a s => ?_
  refine asg s rfl rfl fun a s => ?_
  apply wN
  apply wp_ret
  obtain rfl := Option.some.inj hg
  refine fin1 (fn := Try.f69) s rfl (r_tmp s rfl) ?_
  exact rfl
 replace hg := br_n hg hs4
 rcases Decidable.em (c_.toNat = 45) with hs7 | hs7
 ·have hs7e := decide_eq_true hs7
  replace hg := br_t hg hs7
  apply wL
  refine mv s rfl rfl fun a s => ?_
  refine l_seq rfl (l_call (cap := []) s rfl func68 rfl (by kernel_rfl) rfl rfl (c_r01_digit n _ _ s.lt c_ r1 hr1) fun v8 a w hK hp s => ?_)
  obtain rfl := hp.trans (congrArg Value.bool hs4)
  refine mv s rfl rfl fun a s => ?_
  refine gm s rfl rfl fun a s => ?_
  refine gy s rfl (yl_b (y_eqlN (i := c_.toNat) (j := 45) s rfl rfl) hs7e) fun a s => ?_
  refine qq s rfl (y_pick_f s rfl rfl) fun a s => ?_
  refine mv s rfl rfl fun a s => ?_
  refine gn s rfl fun a s => ?_
  refine gn s rfl fun a s => ?_
  refine gn s rfl fun a s => ?_
  refine gn s rfl fun a s => ?_
  refine gn s rfl fun a s => ?_
  refine qq s rfl (y_pick_t s rfl rfl) fun a s => ?_
  refine mv s rfl rfl fun a s => ?_
  refine gn s rfl fun a s => ?_
  refine gn s rfl fun a s => ?_
  refine gn s rfl fun a s => ?_
  refine gn s rfl fun a s => ?_
  refine gn s rfl fun a s => ?_
  refine gn s rfl fun a s => ?_
  refine qq s rfl (y_pick_t s rfl rfl) fun a s => ?_
  refine asg s rfl rfl fun a s => ?_
  apply wN
  apply wp_ret
  obtain rfl := Option.some.inj hg
  refine fin1 (fn := Try.f69) s rfl (r_tmp s rfl) ?_
  exact rfl
 have hs7e := decide_eq_false hs7
 replace hg := br_f hg hs7
 rcases Bool.eq_false_or_eq_true (big_) with hs10 | hs10
 ·replace hg := br_t hg hs10
  obtain ⟨r11, hr11, hg⟩ := bind_some hg
  rcases Bool.eq_false_or_eq_true (r11) with hs14 | hs14
  ·replace hg := br_t hg hs14
   apply wL
   refine mv s rfl rfl fun a s => ?_
   refine l_seq rfl (l_call (cap := []) s rfl func68 rfl (by kernel_rfl) rfl rfl (c_r01_digit n _ _ s.lt c_ r1 hr1) fun v15 a w hK hp s => ?_)
   obtain rfl := hp.trans (congrArg Value.bool hs4)
   refine mv s rfl rfl fun a s => ?_
   refine gm s rfl rfl fun a s => ?_
   refine gy s rfl (yl_b (y_eqlN (i := c_.toNat) (j := 45) s rfl rfl) hs7e) fun a s => ?_
   refine qq s rfl (y_pick_f s rfl rfl) fun a s => ?_
   refine mv s rfl rfl fun a s => ?_
   refine gy s rfl (yl_b (y_move s rfl) hs10) fun a s => ?_
   refine gm s rfl rfl fun a s => ?_
   refine gm s rfl rfl fun a s => ?_
   refine gl s rfl (l_call (cap := []) s rfl func81 rfl (by kernel_rfl) rfl rfl (c_r01_upper n _ _ s.lt c_ r11 hr11) fun v17 a w hK hp s => ?_)
   obtain rfl := hp.trans (congrArg Value.bool hs14)
   refine gy s rfl (y_pick_t s rfl rfl) fun a s => ?_
   refine qq s rfl (y_pick_f s rfl rfl) fun a s => ?_
   refine mv s rfl rfl fun a s => ?_
   refine gn s rfl fun a s => ?_
   refine gn s rfl fun a s => ?_
   refine gn s rfl fun a s => ?_
   refine gn s rfl fun a s => ?_
   refine gn s rfl fun a s => ?_
   refine gn s rfl fun a s => ?_
   refine qq s rfl (y_pick_t s rfl rfl) fun a s => ?_
   refine asg s rfl rfl fun a s => ?_
   apply wN
   apply wp_ret
   obtain rfl := Option.some.inj hg
   refine fin1 (fn := Try.f69) s rfl (r_tmp s rfl) ?_
   exact rfl
  replace hg := br_n hg hs14
  apply wL
  refine mv s rfl rfl fun a s => ?_
  refine l_seq rfl (l_call (cap := []) s rfl func68 rfl (by kernel_rfl) rfl rfl (c_r01_digit n _ _ s.lt c_ r1 hr1) fun v19 a w hK hp s => ?_)
  obtain rfl := hp.trans (congrArg Value.bool hs4)
  refine mv s rfl rfl fun a s => ?_
  refine gm s rfl rfl fun a s => ?_
  refine gy s rfl (yl_b (y_eqlN (i := c_.toNat) (j := 45) s rfl rfl) hs7e) fun a s => ?_
  refine qq s rfl (y_pick_f s rfl rfl) fun a s => ?_
  refine mv s rfl rfl fun a s => ?_
  refine gy s rfl (yl_b (y_move s rfl) hs10) fun a s => ?_
  refine gm s rfl rfl fun a s => ?_
  refine gm s rfl rfl fun a s => ?_
  refine gl s rfl (l_call (cap := []) s rfl func81 rfl (by kernel_rfl) rfl rfl (c_r01_upper n _ _ s.lt c_ r11 hr11) fun v21 a w hK hp s => ?_)
  obtain rfl := hp.trans (congrArg Value.bool hs14)
  refine gy s rfl (y_pick_t s rfl rfl) fun a s => ?_
  refine qq s rfl (y_pick_f s rfl rfl) fun a s => ?_
  refine mv s rfl rfl fun a s => ?_
  refine gy s rfl (yl_b (y_move s rfl) hs10) fun a s => ?_
  refine gy s rfl (y_not s rfl) fun a s => ?_
  refine gm s rfl rfl fun a s => ?_
  refine gn s rfl fun a s => ?_
  refine gn s rfl fun a s => ?_
  refine gy s rfl (y_pick_f s rfl rfl) fun a s => ?_
  refine qq s rfl (y_pick_f s rfl rfl) fun a s => ?_
  refine asg s rfl rfl fun a s => ?_
  apply wN
  apply wp_ret
  obtain rfl := Option.some.inj hg
  refine fin1 (fn := Try.f69) s rfl (r_tmp s rfl) ?_
  exact rfl
 replace hg := br_n hg hs10
 obtain ⟨r23, hr23, hg⟩ := bind_some hg
 apply wL
 refine mv s rfl rfl fun a s => ?_
 refine l_seq rfl (l_call (cap := []) s rfl func68 rfl (by kernel_rfl) rfl rfl (c_r01_digit n _ _ s.lt c_ r1 hr1) fun v26 a w hK hp s => ?_)
 obtain rfl := hp.trans (congrArg Value.bool hs4)
 refine mv s rfl rfl fun a s => ?_
 refine gm s rfl rfl fun a s => ?_
 refine gy s rfl (yl_b (y_eqlN (i := c_.toNat) (j := 45) s rfl rfl) hs7e) fun a s => ?_
 refine qq s rfl (y_pick_f s rfl rfl) fun a s => ?_
 refine mv s rfl rfl fun a s => ?_
 refine gy s rfl (yl_b (y_move s rfl) hs10) fun a s => ?_
 refine gm s rfl rfl fun a s => ?_
 refine gn s rfl fun a s => ?_
 refine gn s rfl fun a s => ?_
 refine gy s rfl (y_pick_f s rfl rfl) fun a s => ?_
 refine qq s rfl (y_pick_f s rfl rfl) fun a s => ?_
 refine mv s rfl rfl fun a s => ?_
 refine gy s rfl (yl_b (y_move s rfl) hs10) fun a s => ?_
 refine gy s rfl (y_not s rfl) fun a s => ?_
 refine gm s rfl rfl fun a s => ?_
 refine gm s rfl rfl fun a s => ?_
 refine gl s rfl (l_call (cap := []) s rfl func82 rfl (by kernel_rfl) rfl rfl (c_r01_lower n _ _ s.lt c_ r23 hr23) fun v28 a w hK hp s => ?_)
 obtain rfl := hp
 refine gy s rfl (y_pick_t s rfl rfl) fun a s => ?_
 refine qq s rfl (y_pick_f s rfl rfl) fun a s => ?_
 refine asg s rfl rfl fun a s => ?_
 apply wN
 apply wp_ret
 obtain rfl := Option.some.inj hg
 refine fin1 (fn := Try.f69) s rfl (r_tmp s rfl) ?_
 exact rfl
set_option maxHeartbeats 400000 in
theorem c_r01_named (n : Nat) (M : Bs) (w0 : World) (hM : ∀ b, M b → b < w0.heap.size) (s_ : (List UInt8)) (lp01 : (s_).length ≤ 9223372036854775807) (big_ : Bool) (r : Bool) (hg : r01_named n s_ big_ = some r) :
    Calls Try.prog 64 [.string (bs (s_)), .bool (big_)].toArray w0 (Ret noB w0 fun v w => v = .bool (r)) := by
 unfold r01_named at hg
 refine enter M noB func64 rfl rfl hM ?_
 intro a s
 apply wR
 refine asg s rfl rfl fun a s => ?_
 apply wN
 apply wQ
 apply wQ
 obtain ⟨k1, hg, hk1⟩ := jn_some hg
 refine c_post (fun a w => ∃ (t_2 : Bool), k1 t_2 = some r ∧ St (⟨Try.f64.ntmps, M, noB, w0⟩ : Ctx) [(0, vT s_), (1, .bool (big_)), (23, .bool (t_2))] [] [] a w) ?_ ?_
 ·rcases Decidable.em (((s_).length) < 1) with hs3 | hs3
  ·have hs3e := decide_eq_true hs3
   replace hg := br_t hg hs3
   apply wL
   refine mv s rfl rfl fun a s => ?_
   refine qq s rfl (y_lenStrN s rfl underlying9) fun a s => ?_
   refine qq s rfl (yl_b (y_lssN (i := ((s_).length)) (j := 1) s rfl rfl) hs3e) fun a s => ?_
   refine mv s rfl rfl fun a s => ?_
   refine gn s rfl fun a s => ?_
   refine gn s rfl fun a s => ?_
   refine gn s rfl fun a s => ?_
   refine qq s rfl (y_pick_t s rfl rfl) fun a s => ?_
   refine mv s rfl rfl fun a s => ?_
   refine gn s rfl fun a s => ?_
   refine gn s rfl fun a s => ?_
   refine gn s rfl fun a s => ?_
   refine qq s rfl (y_pick_t s rfl rfl) fun a s => ?_
   refine mv s rfl rfl fun a s => ?_
   refine gn s rfl fun a s => ?_
   refine gn s rfl fun a s => ?_
   refine gn s rfl fun a s => ?_
   refine qq s rfl (y_pick_t s rfl rfl) fun a s => ?_
   apply wN
   exact ⟨(true), hg, (s.sb rfl rfl rfl)⟩
  have hs3e := decide_eq_false hs3
  replace hg := br_f hg hs3
  rcases Decidable.em ((32 : Nat) < ((s_).length)) with hs4 | hs4
  ·have hs4e := decide_eq_true hs4
   replace hg := br_t hg hs4
   apply wL
   refine mv s rfl rfl fun a s => ?_
   refine qq s rfl (y_lenStrN s rfl underlying9) fun a s => ?_
   refine qq s rfl (yl_b (y_lssN (i := ((s_).length)) (j := 1) s rfl rfl) hs3e) fun a s => ?_
   refine mv s rfl rfl fun a s => ?_
   refine gm s rfl rfl fun a s => ?_
   refine gy s rfl (y_lenStrN s rfl underlying9) fun a s => ?_
   refine gy s rfl (yl_b (y_gtrN (i := ((s_).length)) (j := 32) s rfl rfl) hs4e) fun a s => ?_
   refine qq s rfl (y_pick_f s rfl rfl) fun a s => ?_
   refine mv s rfl rfl fun a s => ?_
   refine gn s rfl fun a s => ?_
   refine gn s rfl fun a s => ?_
   refine gn s rfl fun a s => ?_
   refine qq s rfl (y_pick_t s rfl rfl) fun a s => ?_
   refine mv s rfl rfl fun a s => ?_
   refine gn s rfl fun a s => ?_
   refine gn s rfl fun a s => ?_
   refine gn s rfl fun a s => ?_
   refine qq s rfl (y_pick_t s rfl rfl) fun a s => ?_
   apply wN
   exact ⟨(true), hg, (s.sb rfl rfl rfl)⟩
  have hs4e := decide_eq_false hs4
  replace hg := br_f hg hs4
  obtain ⟨c5, hc5, hg⟩ := bind_some hg
  obtain ⟨r6, hr6, hg⟩ := bind_some hg
  rcases Bool.eq_false_or_eq_true (r6) with hs9 | hs9
  ·replace hg := br_t hg hs9
   apply wL
   refine mv s rfl rfl fun a s => ?_
   refine qq s rfl (y_lenStrN s rfl underlying9) fun a s => ?_
   refine qq s rfl (yl_b (y_lssN (i := ((s_).length)) (j := 1) s rfl rfl) hs3e) fun a s => ?_
   refine mv s rfl rfl fun a s => ?_
   refine gm s rfl rfl fun a s => ?_
   refine gy s rfl (y_lenStrN s rfl underlying9) fun a s => ?_
   refine gy s rfl (yl_b (y_gtrN (i := ((s_).length)) (j := 32) s rfl rfl) hs4e) fun a s => ?_
   refine qq s rfl (y_pick_f s rfl rfl) fun a s => ?_
   refine mv s rfl rfl fun a s => ?_
   refine gm s rfl rfl fun a s => ?_
   refine gy s rfl (y_indexN (i := 0) s rfl rfl underlying9 rfl hc5) fun a s => ?_
   refine gl s rfl (l_call (cap := []) s rfl func68 rfl (by kernel_rfl) rfl rfl (c_r01_digit n _ _ s.lt c5 r6 hr6) fun v10 a w hK hp s => ?_)
   obtain rfl := hp.trans (congrArg Value.bool hs9)
   refine qq s rfl (y_pick_f s rfl rfl) fun a s => ?_
   refine mv s rfl rfl fun a s => ?_
   refine gn s rfl fun a s => ?_
   refine gn s rfl fun a s => ?_
   refine gn s rfl fun a s => ?_
   refine qq s rfl (y_pick_t s rfl rfl) fun a s => ?_
   apply wN
   exact ⟨(true), hg, (s.sb rfl rfl rfl)⟩
  replace hg := br_n hg hs9
  apply wL
  refine mv s rfl rfl fun a s => ?_
  refine qq s rfl (y_lenStrN s rfl underlying9) fun a s => ?_
  refine qq s rfl (yl_b (y_lssN (i := ((s_).length)) (j := 1) s rfl rfl) hs3e) fun a s => ?_
  refine mv s rfl rfl fun a s => ?_
  refine gm s rfl rfl fun a s => ?_
  refine gy s rfl (y_lenStrN s rfl underlying9) fun a s => ?_
  refine gy s rfl (yl_b (y_gtrN (i := ((s_).length)) (j := 32) s rfl rfl) hs4e) fun a s => ?_
  refine qq s rfl (y_pick_f s rfl rfl) fun a s => ?_
  refine mv s rfl rfl fun a s => ?_
  refine gm s rfl rfl fun a s => ?_
  refine gy s rfl (y_indexN (i := 0) s rfl rfl underlying9 rfl hc5) fun a s => ?_
  refine gl s rfl (l_call (cap := []) s rfl func68 rfl (by kernel_rfl) rfl rfl (c_r01_digit n _ _ s.lt c5 r6 hr6) fun v12 a w hK hp s => ?_)
  obtain rfl := hp.trans (congrArg Value.bool hs9)
  refine qq s rfl (y_pick_f s rfl rfl) fun a s => ?_
  refine mv s rfl rfl fun a s => ?_
  refine gm s rfl rfl fun a s => ?_
  refine gy s rfl (y_indexN (i := 0) s rfl rfl underlying9 rfl hc5) fun a s => ?_
  refine gy s rfl (y_eqlN (i := c5.toNat) (j := 45) s rfl rfl) fun a s => ?_
  refine qq s rfl (y_pick_f s rfl rfl) fun a s => ?_
  apply wN
  exact ⟨(decide (c5.toNat = 45)), hg, (s.sb rfl rfl rfl)⟩
 clear s a; rintro a w ⟨t_2, hg, s⟩
 subst hk1
 refine c_cond s rfl (fun hc14 => ?_) (fun hc14 => ?_)
 ·replace hg := br_t hg hc14
  apply wR
  refine asg s rfl rfl fun a s => ?_
  apply wN
  apply wp_ret
  refine p_thenR ?_
  obtain rfl := Option.some.inj hg
  refine fin1 (fn := Try.f64) s rfl (r_tmp s rfl) ?_
  exact rfl
 replace hg := br_n hg hc14
 apply wp_skip
 apply pN
 apply wQ
 apply wR
 refine asg s rfl rfl fun a s => ?_
 apply wN
 apply wp_block
 refine c_loop (σ := Nat) (fun m1 a w => ∃ (i_15 : Nat), r01_named_L0 n s_ big_ m1 i_15 = some r ∧ St (⟨Try.f64.ntmps, M, noB, w0⟩ : Ctx) [(0, vT s_), (1, .bool (big_)), (5, vI (((i_15 : Nat) : Int)))] [] [] a w) (fun m1 => m1) n ⟨(0), hg, (s.sb rfl rfl rfl)⟩ ?_
 clear s a; rintro m1 a w ⟨i_15, hg, s⟩
 rcases m1 with _ | m1
 ·rw [r01_named_L0] at hg; cases hg
 rw [r01_named_L0] at hg
 apply wQ
 apply wR
 refine mv s rfl rfl fun a s => ?_
 refine mv s rfl rfl fun a s => ?_
 refine qq s rfl (y_lenStrN s rfl underlying9) fun a s => ?_
 refine qq s rfl (y_lssN (i := i_15) (j := ((s_).length)) s rfl rfl) fun a s => ?_
 apply wN
 refine c_dec s rfl (fun hc16 => ?_) (fun hc16 => ?_)
 ·replace hg := br_t hg hc16
  have hmx17 : (s_).length ≤ 9223372036854775807 := (by omega)
  apply wp_skip
  apply pN
  apply wQ
  apply wp_block
  apply wQ
  obtain ⟨c18, hc18, hg⟩ := bind_some hg
  obtain ⟨r19, hr19, hg⟩ := bind_some hg
  apply wL
  refine mv s rfl rfl fun a s => ?_
  refine mv s rfl rfl fun a s => ?_
  refine qq s rfl (y_indexN (i := i_15) s rfl rfl underlying9 rfl hc18) fun a s => ?_
  refine mv s rfl rfl fun a s => ?_
  refine l_seq rfl (l_call (cap := []) s rfl func69 rfl (by kernel_rfl) rfl rfl (c_r01_part n _ _ s.lt c18 big_ r19 hr19) fun v22 a w hK hp s => ?_)
  obtain rfl := hp
  refine qq s rfl (y_not s rfl) fun a s => ?_
  apply wN
  refine c_cond s rfl (fun hc24 => ?_) (fun hc24 => ?_)
  ·replace hg := br_t hg hc24
   apply wR
   refine asg s rfl rfl fun a s => ?_
   apply wN
   apply wp_ret
   refine p_inR ?_
   refine p_thenR ?_
   refine p_thenR ?_
   refine p_inR ?_
   refine p_thenR ?_
   obtain rfl := Option.some.inj hg
   refine fin1 (fn := Try.f64) s rfl (r_tmp s rfl) ?_
   exact rfl
  replace hg := br_n hg hc24
  apply wp_skip
  refine p_inN ?_
  apply pN
  apply wL
  refine mv s rfl rfl fun a s => ?_
  refine qq s rfl (y_addN (i := i_15) (j := 1) s rfl rfl (in64.2 (by omega))) fun a s => ?_
  refine asg s rfl rfl fun a s => ?_
  apply wN
  exact ⟨m1, Nat.lt_succ_self _, ⟨(i_15 + 1), hg, (s.sb rfl rfl rfl)⟩⟩
 replace hg := br_f hg hc16
 apply wp_exit
 refine p_then ?_
 refine p_then ?_
 refine p_in ?_
 apply pN
 apply wR
 refine asg s rfl rfl fun a s => ?_
 apply wN
 apply wp_ret
 obtain rfl := Option.some.inj hg
 refine fin1 (fn := Try.f64) s rfl (r_tmp s rfl) ?_
 exact rfl
set_option maxHeartbeats 400000 in
theorem c_r01_Name (n : Nat) (M : Bs) (w0 : World) (hM : ∀ b, M b → b < w0.heap.size) (s_ : (List UInt8)) (lp01 : (s_).length ≤ 9223372036854775807) (r : Bool) (hg : r01_Name n s_ = some r) :
    Calls Try.prog 55 [.string (bs (s_))].toArray w0 (Ret noB w0 fun v w => v = .bool (r)) := by
 unfold r01_Name at hg
 refine enter M noB func55 rfl rfl hM ?_
 intro a s
 apply wR
 refine asg s rfl rfl fun a s => ?_
 apply wN
 apply wQ
 obtain ⟨r1, hr1, hg⟩ := bind_some hg
 apply wL
 refine mv s rfl rfl fun a s => ?_
 refine l_seq rfl (l_call (cap := []) s rfl func64 rfl (by kernel_rfl) rfl rfl (c_r01_named n _ _ s.lt s_ (by omega) false r1 hr1) fun v4 a w hK hp s => ?_)
 obtain rfl := hp
 refine asg s rfl rfl fun a s => ?_
 apply wN
 apply wp_ret
 obtain rfl := Option.some.inj hg
 refine fin1 (fn := Try.f55) s rfl (r_tmp s rfl) ?_
 exact rfl
set_option maxHeartbeats 400000 in
theorem c_r03_names (n : Nat) (M : Bs) (w0 : World) (hM : ∀ b, M b → b < w0.heap.size) (d_ : (List TypeDecl)) (Ap01 : Option Addr) (cp01 : Nat) (hp01 : SlR RTypeDecl M w0 Ap01 (d_).length cp01 (d_)) (r : Int) (hg : r03_names n d_ = some r) :
    Calls Try.prog 36 [.slice (Ap01) ((d_).length) (cp01)].toArray w0 (Ret noB w0 fun v w => v = .int .i64 (r)) := by
 unfold r03_names at hg
 refine enter M noB func36 rfl rfl hM ?_
 intro a s
 replace s := s.es 101 hp01
 apply wR
 refine asg s rfl rfl fun a s => ?_
 apply wN
 apply wQ
 apply wR
 refine asg s rfl rfl fun a s => ?_
 apply wN
 apply wp_block
 refine c_loop (σ := Nat) (fun m1 a w => ∃ (i_1 : Nat), r03_names_L0 n d_ m1 i_1 = some r ∧ St (⟨Try.f36.ntmps, M, noB, w0⟩ : Ctx) [(0, sl Ap01 (d_) cp01), (3, vI (((i_1 : Nat) : Int)))] [] [(101, slF RTypeDecl (Ap01) ((d_).length) (cp01) (d_))] a w) (fun m1 => m1) n ⟨(0), hg, (s.sb rfl rfl rfl)⟩ ?_
 clear s a; rintro m1 a w ⟨i_1, hg, s⟩
 rcases m1 with _ | m1
 ·rw [r03_names_L0] at hg; cases hg
 rw [r03_names_L0] at hg
 apply wQ
 apply wR
 refine mv s rfl rfl fun a s => ?_
 refine mv s rfl rfl fun a s => ?_
 refine qq s rfl (y_lenSlice s rfl underlying22) fun a s => ?_
 refine qq s rfl (y_lssN (i := i_1) (j := ((d_).length)) s rfl rfl) fun a s => ?_
 apply wN
 refine c_dec s rfl (fun hc2 => ?_) (fun hc2 => ?_)
 ·replace hg := br_t hg hc2
  have hmx3 := SlR.mx (s.ft 101 rfl)
  apply wp_skip
  apply pN
  apply wQ
  apply wp_block
  apply wQ
  apply wQ
  obtain ⟨x5, hx5, hg⟩ := bind_some hg
  obtain ⟨r7, hr7, hg⟩ := bind_some hg
  apply wL
  refine mv s rfl rfl fun a s => ?_
  refine mv s rfl rfl fun a s => ?_
  obtain ⟨p10, hep10, hpp10⟩ := SlR.elemX (s.ft 101 rfl) hx5
  refine qq s rfl (y_elem (sz := 3) (i := i_1) s rfl rfl underlying22 rfl hep10 rfl (lt_of_get hx5)) fun a s => ?_
  refine qq s rfl (y_ptrField (o' := 0) s rfl underlying40 rfl rfl rfl) fun a s => ?_
  obtain ⟨hlq11, hmq11, csq11, hdq11, hcq11⟩ := hpp10
  obtain ⟨Aq112, cq112, Aq113, cq113, rfl, lq111, hq112, hq113⟩ := RTypeDecl.open hdq11
  replace s := s.ns 104 hq112
  replace s := s.ns 105 hq113
  refine qq s rfl (y_ldp1 s rfl hlq11 hmq11 (hcq11 0 _ rfl) underlying9 rfl) fun a s => ?_
  refine l_seq rfl (l_call (cap := []) s rfl func55 rfl (by kernel_rfl) rfl rfl (c_r01_Name n _ _ s.lt x5.Name (by omega) r7 hr7) fun v12 a w hK hp s => ?_)
  obtain rfl := hp
  refine qq s rfl (y_not s rfl) fun a s => ?_
  apply wN
  refine c_cond s rfl (fun hc14 => ?_) (fun hc14 => ?_)
  ·replace hg := br_t hg hc14
   apply wR
   refine asg s rfl rfl fun a s => ?_
   apply wN
   apply wp_ret
   refine p_thenR ?_
   refine p_inR ?_
   refine p_thenR ?_
   refine p_thenR ?_
   refine p_inR ?_
   refine p_thenR ?_
   obtain rfl := Option.some.inj hg
   refine fin1 (fn := Try.f36) s rfl (r_tmp s rfl) ?_
   exact rfl
  replace hg := br_n hg hc14
  apply wp_skip
  apply pN
  apply wQ
  obtain ⟨r17, hr17, hg⟩ := bind_some hg
  apply wL
  refine mv s rfl rfl fun a s => ?_
  refine mv s rfl rfl fun a s => ?_
  refine mv s rfl rfl fun a s => ?_
  obtain ⟨p20, hep20, hpp20⟩ := SlR.elemX (s.ft 101 rfl) hx5
  refine qq s rfl (y_elem (sz := 3) (i := i_1) s rfl rfl underlying22 rfl hep20 rfl (lt_of_get hx5)) fun a s => ?_
  refine qq s rfl (y_ptrField (o' := 0) s rfl underlying40 rfl rfl rfl) fun a s => ?_
  obtain ⟨hlq21, hmq21, csq21, hdq21, hcq21⟩ := hpp20
  obtain ⟨Aq212, cq212, Aq213, cq213, rfl, lq211, hq212, hq213⟩ := RTypeDecl.open hdq21
  replace s := s.ns 108 hq212
  replace s := s.ns 109 hq213
  refine qq s rfl (y_ldp1 s rfl hlq21 hmq21 (hcq21 0 _ rfl) underlying9 rfl) fun a s => ?_
  refine l_seq rfl (l_call (cap := []) s rfl func42 rfl (by kernel_rfl) rfl rfl (c_r03_find n _ _ s.lt d_ (Ap01) (cp01) (s.ft 101 rfl) x5.Name (by omega) r17 hr17) fun v22 a w hK hp s => ?_)
  obtain rfl := hp
  refine mv s rfl rfl fun a s => ?_
  refine qq s rfl (y_lss s rfl rfl) fun a s => ?_
  apply wN
  refine c_dec s rfl (fun hc24 => ?_) (fun hc24 => ?_)
  ·replace hg := br_t hg hc24
   apply wR
   refine asg s rfl rfl fun a s => ?_
   apply wN
   apply wp_ret
   refine p_inR ?_
   refine p_thenR ?_
   refine p_thenR ?_
   refine p_inR ?_
   refine p_thenR ?_
   obtain rfl := Option.some.inj hg
   refine fin1 (fn := Try.f36) s rfl (r_tmp s rfl) ?_
   exact rfl
  replace hg := br_f hg hc24
  apply wp_skip
  refine p_inN ?_
  apply pN
  apply wL
  refine mv s rfl rfl fun a s => ?_
  refine qq s rfl (y_addN (i := i_1) (j := 1) s rfl rfl (in64.2 (by omega))) fun a s => ?_
  refine asg s rfl rfl fun a s => ?_
  apply wN
  exact ⟨m1, Nat.lt_succ_self _, ⟨(i_1 + 1), hg, (s.sb rfl rfl rfl)⟩⟩
 replace hg := br_f hg hc2
 apply wp_exit
 refine p_then ?_
 refine p_then ?_
 refine p_in ?_
 apply pN
 apply wR
 refine asg s rfl rfl fun a s => ?_
 apply wN
 apply wp_ret
 obtain rfl := Option.some.inj hg
 refine fin1 (fn := Try.f36) s rfl (r_tmp s rfl) ?_
 exact rfl
set_option maxHeartbeats 400000 in
theorem c_r03_Among (n : Nat) (M : Bs) (w0 : World) (hM : ∀ b, M b → b < w0.heap.size) (l_ : (List (List UInt8))) (Ap01 : Option Addr) (cp01 : Nat) (hp01 : SlR Rep.str M w0 Ap01 (l_).length cp01 (l_)) (s_ : (List UInt8)) (lp11 : (s_).length ≤ 9223372036854775807) (r : Bool) (hg : r03_Among n l_ s_ = some r) :
    Calls Try.prog 28 [.slice (Ap01) ((l_).length) (cp01), .string (bs (s_))].toArray w0 (Ret noB w0 fun v w => v = .bool (r)) := by
 unfold r03_Among at hg
 refine enter M noB func28 rfl rfl hM ?_
 intro a s
 replace s := s.es 101 hp01
 apply wR
 refine asg s rfl rfl fun a s => ?_
 apply wN
 apply wQ
 apply wR
 refine asg s rfl rfl fun a s => ?_
 apply wN
 apply wp_block
 refine c_loop (σ := Nat) (fun m1 a w => ∃ (i_1 : Nat), r03_Among_L0 n l_ s_ m1 i_1 = some r ∧ St (⟨Try.f28.ntmps, M, noB, w0⟩ : Ctx) [(0, sl Ap01 (l_) cp01), (1, vT s_), (5, vI (((i_1 : Nat) : Int)))] [] [(101, slF Rep.str (Ap01) ((l_).length) (cp01) (l_))] a w) (fun m1 => m1) n ⟨(0), hg, (s.sb rfl rfl rfl)⟩ ?_
 clear s a; rintro m1 a w ⟨i_1, hg, s⟩
 rcases m1 with _ | m1
 ·rw [r03_Among_L0] at hg; cases hg
 rw [r03_Among_L0] at hg
 apply wQ
 apply wR
 refine mv s rfl rfl fun a s => ?_
 refine mv s rfl rfl fun a s => ?_
 refine qq s rfl (y_lenSlice s rfl underlying27) fun a s => ?_
 refine qq s rfl (y_lssN (i := i_1) (j := ((l_).length)) s rfl rfl) fun a s => ?_
 apply wN
 refine c_dec s rfl (fun hc2 => ?_) (fun hc2 => ?_)
 ·replace hg := br_t hg hc2
  have hmx3 := SlR.mx (s.ft 101 rfl)
  apply wp_skip
  apply pN
  apply wQ
  apply wp_block
  apply wQ
  obtain ⟨x5, hx5, hg⟩ := bind_some hg
  apply wL
  refine mv s rfl rfl fun a s => ?_
  refine mv s rfl rfl fun a s => ?_
  obtain ⟨p7, hep7, hpp7⟩ := SlR.elemX (s.ft 101 rfl) hx5
  refine qq s rfl (y_elem (sz := 1) (i := i_1) s rfl rfl underlying27 rfl hep7 rfl (lt_of_get hx5)) fun a s => ?_
  obtain ⟨hlq8, hmq8, csq8, hdq8, hcq8⟩ := hpp7
  obtain ⟨rfl, lq81⟩ := hdq8
  refine qq s rfl (y_ldp1 s rfl hlq8 hmq8 (hcq8 0 _ rfl) underlying9 rfl) fun a s => ?_
  refine mv s rfl rfl fun a s => ?_
  refine qq s rfl (y_seq s rfl rfl) fun a s => ?_
  apply wN
  refine c_dec s rfl (fun hc9 => ?_) (fun hc9 => ?_)
  ·replace hg := br_t hg hc9
   apply wR
   refine asg s rfl rfl fun a s => ?_
   apply wN
   apply wp_ret
   refine p_inR ?_
   refine p_thenR ?_
   refine p_thenR ?_
   refine p_inR ?_
   refine p_thenR ?_
   obtain rfl := Option.some.inj hg
   refine fin1 (fn := Try.f28) s rfl (r_tmp s rfl) ?_
   exact rfl
  replace hg := br_f hg hc9
  apply wp_skip
  refine p_inN ?_
  apply pN
  apply wL
  refine mv s rfl rfl fun a s => ?_
  refine qq s rfl (y_addN (i := i_1) (j := 1) s rfl rfl (in64.2 (by omega))) fun a s => ?_
  refine asg s rfl rfl fun a s => ?_
  apply wN
  exact ⟨m1, Nat.lt_succ_self _, ⟨(i_1 + 1), hg, (s.sb rfl rfl rfl)⟩⟩
 replace hg := br_f hg hc2
 apply wp_exit
 refine p_then ?_
 refine p_then ?_
 refine p_in ?_
 apply pN
 apply wR
 refine asg s rfl rfl fun a s => ?_
 apply wN
 apply wp_ret
 obtain rfl := Option.some.inj hg
 refine fin1 (fn := Try.f28) s rfl (r_tmp s rfl) ?_
 exact rfl
set_option maxHeartbeats 400000 in
theorem c_r03_supers (n : Nat) (M : Bs) (w0 : World) (hM : ∀ b, M b → b < w0.heap.size) (d_ : (List TypeDecl)) (Ap01 : Option Addr) (cp01 : Nat) (hp01 : SlR RTypeDecl M w0 Ap01 (d_).length cp01 (d_)) (r : Int) (hg : r03_supers n d_ = some r) :
    Calls Try.prog 37 [.slice (Ap01) ((d_).length) (cp01)].toArray w0 (Ret noB w0 fun v w => v = .int .i64 (r)) := by
 unfold r03_supers at hg
 refine enter M noB func37 rfl rfl hM ?_
 intro a s
 replace s := s.es 101 hp01
 apply wR
 refine asg s rfl rfl fun a s => ?_
 apply wN
 apply wQ
 apply wR
 refine asg s rfl rfl fun a s => ?_
 apply wN
 apply wp_block
 refine c_loop (σ := Nat) (fun m1 a w => ∃ (i_1 : Nat), r03_supers_L0 n d_ m1 i_1 = some r ∧ St (⟨Try.f37.ntmps, M, noB, w0⟩ : Ctx) [(0, sl Ap01 (d_) cp01), (3, vI (((i_1 : Nat) : Int)))] [] [(101, slF RTypeDecl (Ap01) ((d_).length) (cp01) (d_))] a w) (fun m1 => m1) n ⟨(0), hg, (s.sb rfl rfl rfl)⟩ ?_
 clear s a; rintro m1 a w ⟨i_1, hg, s⟩
 rcases m1 with _ | m1
 ·rw [r03_supers_L0] at hg; cases hg
 rw [r03_supers_L0] at hg
 apply wQ
 apply wR
 refine mv s rfl rfl fun a s => ?_
 refine mv s rfl rfl fun a s => ?_
 refine qq s rfl (y_lenSlice s rfl underlying22) fun a s => ?_
 refine qq s rfl (y_lssN (i := i_1) (j := ((d_).length)) s rfl rfl) fun a s => ?_
 apply wN
 refine c_dec s rfl (fun hc2 => ?_) (fun hc2 => ?_)
 ·replace hg := br_t hg hc2
  have hmx3 := SlR.mx (s.ft 101 rfl)
  apply wp_skip
  apply pN
  apply wQ
  obtain ⟨k4, hg, hk4⟩ := jn_some hg
  refine c_post (fun a w => k4 = some r ∧ St (⟨Try.f37.ntmps, M, noB, w0⟩ : Ctx) [(0, sl Ap01 (d_) cp01), (3, vI (((i_1 : Nat) : Int)))] [] [(101, slF RTypeDecl (Ap01) ((d_).length) (cp01) (d_))] a w) ?_ ?_
  ·apply wp_block
   apply wQ
   obtain ⟨x6, hx6, hg⟩ := bind_some hg
   apply wL
   refine mv s rfl rfl fun a s => ?_
   refine mv s rfl rfl fun a s => ?_
   obtain ⟨p8, hep8, hpp8⟩ := SlR.elemX (s.ft 101 rfl) hx6
   refine qq s rfl (y_elem (sz := 3) (i := i_1) s rfl rfl underlying22 rfl hep8 rfl (lt_of_get hx6)) fun a s => ?_
   refine qq s rfl (y_ptrField (o' := 1) s rfl underlying40 rfl rfl rfl) fun a s => ?_
   obtain ⟨hlq9, hmq9, csq9, hdq9, hcq9⟩ := hpp8
   obtain ⟨Aq92, cq92, Aq93, cq93, rfl, lq91, hq92, hq93⟩ := RTypeDecl.open hdq9
   replace s := s.ns 104 hq92
   replace s := s.ns 105 hq93
   refine qq s rfl (y_ldp1 s rfl hlq9 hmq9 (hcq9 1 _ rfl) underlying27 rfl) fun a s => ?_
   refine asg s rfl rfl fun a s => ?_
   apply wN
   apply wR
   refine asg s rfl rfl fun a s => ?_
   apply wN
   apply wp_block
   refine c_loop (σ := Nat) (fun m2 a w => ∃ (k_10 : Nat), r03_supers_L1 n d_ k4 x6 m2 k_10 = some r ∧ St (⟨Try.f37.ntmps, M, noB, w0⟩ : Ctx) [(0, sl Ap01 (d_) cp01), (3, vI (((i_1 : Nat) : Int))), (4, sl Aq92 (x6.Supers) cq92), (5, vI (((k_10 : Nat) : Int)))] [] [(101, slF RTypeDecl (Ap01) ((d_).length) (cp01) (d_)), (104, slF Rep.str (Aq92) ((x6.Supers).length) (cq92) (x6.Supers))] a w) (fun m2 => m2) n ⟨(0), hg, (s.sb rfl rfl rfl)⟩ ?_
   clear s a; rintro m2 a w ⟨k_10, hg, s⟩
   rcases m2 with _ | m2
   ·rw [r03_supers_L1] at hg; cases hg
   rw [r03_supers_L1] at hg
   apply wQ
   apply wR
   refine mv s rfl rfl fun a s => ?_
   refine mv s rfl rfl fun a s => ?_
   refine qq s rfl (y_lenSlice s rfl underlying27) fun a s => ?_
   refine qq s rfl (y_lssN (i := k_10) (j := ((x6.Supers).length)) s rfl rfl) fun a s => ?_
   apply wN
   refine c_dec s rfl (fun hc11 => ?_) (fun hc11 => ?_)
   ·replace hg := br_t hg hc11
    have hmx12 := SlR.mx (s.ft 104 rfl)
    apply wp_skip
    apply pN
    apply wQ
    apply wp_block
    apply wQ
    apply wQ
    obtain ⟨x14, hx14, hg⟩ := bind_some hg
    obtain ⟨r16, hr16, hg⟩ := bind_some hg
    apply wL
    refine mv s rfl rfl fun a s => ?_
    refine mv s rfl rfl fun a s => ?_
    refine mv s rfl rfl fun a s => ?_
    obtain ⟨p19, hep19, hpp19⟩ := SlR.elemX (s.ft 104 rfl) hx14
    refine qq s rfl (y_elem (sz := 1) (i := k_10) s rfl rfl underlying27 rfl hep19 rfl (lt_of_get hx14)) fun a s => ?_
    obtain ⟨hlq20, hmq20, csq20, hdq20, hcq20⟩ := hpp19
    obtain ⟨rfl, lq201⟩ := hdq20
    refine qq s rfl (y_ldp1 s rfl hlq20 hmq20 (hcq20 0 _ rfl) underlying9 rfl) fun a s => ?_
    refine l_seq rfl (l_call (cap := []) s rfl func42 rfl (by kernel_rfl) rfl rfl (c_r03_find n _ _ s.lt d_ (Ap01) (cp01) (s.ft 101 rfl) x14 (by omega) r16 hr16) fun v21 a w hK hp s => ?_)
    obtain rfl := hp
    refine qq s rfl (y_lss s rfl rfl) fun a s => ?_
    apply wN
    refine c_dec s rfl (fun hc23 => ?_) (fun hc23 => ?_)
    ·replace hg := br_t hg hc23
     apply wR
     refine asg s rfl rfl fun a s => ?_
     apply wN
     apply wp_ret
     refine p_thenR ?_
     refine p_inR ?_
     refine p_thenR ?_
     refine p_thenR ?_
     refine p_inR ?_
     refine p_inR ?_
     refine p_thenR ?_
     refine p_thenR ?_
     refine p_inR ?_
     refine p_thenR ?_
     obtain rfl := Option.some.inj hg
     refine fin1 (fn := Try.f37) s rfl (r_tmp s rfl) ?_
     exact rfl
    replace hg := br_f hg hc23
    apply wp_skip
    apply pN
    apply wQ
    obtain ⟨hk24, hg⟩ := chk_some hg
    obtain ⟨r27, hr27, hg⟩ := bind_some hg
    refine d_plan s [] [(0, some 0), (1, some 0), (2, some 0), (3, some 0), (4, some 0), (5, some 0), (6, some 0), (7, none)] rfl (by kernel_rfl) (by kernel_rfl) rfl ?_; clear s; intro wr hZ s; have hR := s.wd
    refine qt s hR rfl (y_move s rfl) fun a s => ?_
    refine qt s hR rfl (y_move s rfl) fun a s => ?_
    have hcap107 := (s.ft 104 rfl).cap
    refine qt s hR rfl (y_cutH (xs := x6.Supers) (sz := 1) (i := k_10) s rfl rfl underlying27 rfl rfl hk24 hcap107) fun a s => ?_
    replace s := s.add 107 (slF Rep.str (Aq92) (((x6.Supers).take k_10).length) (cq92) ((x6.Supers).take k_10)) (SlR.cutH (s.ft 104 rfl) k_10 hk24)
    refine qt s hR rfl (y_move s rfl) fun a s => ?_
    refine qt s hR rfl (y_move s rfl) fun a s => ?_
    obtain ⟨p30, hep30, hpp30⟩ := SlR.elemX (s.ft 104 rfl) hx14
    refine qt s hR rfl (y_elem (sz := 1) (i := k_10) s rfl rfl underlying27 rfl hep30 rfl (lt_of_get hx14)) fun a s => ?_
    obtain ⟨hlq31, hmq31, csq31, hdq31, hcq31⟩ := hpp30
    obtain ⟨rfl, lq311⟩ := hdq31
    refine qt s hR rfl (y_ldp1 s rfl hlq31 hmq31 (hcq31 0 _ rfl) underlying9 rfl) fun a s => ?_
    refine l_take s rfl rfl (l_call (cap := []) s rfl func28 rfl (by kernel_rfl) rfl rfl (c_r03_Among n _ _ s.lt ((x6.Supers).take k_10) (Aq92) (cq92) (s.ft 107 rfl) x14 (by omega) r27 hr27) fun v32 a w hK hp s => ?_)
    replace hZ := Nat.le_trans hZ hK.size; refine ⟨fun g _ h => h.grow hK, ?_⟩; clear hK
    obtain rfl := hp
    clear hR hZ
    apply pN
    refine c_cond s rfl (fun hc34 => ?_) (fun hc34 => ?_)
    ·replace hg := br_t hg hc34
     apply wR
     refine asg s rfl rfl fun a s => ?_
     apply wN
     apply wp_ret
     refine p_inR ?_
     refine p_thenR ?_
     refine p_thenR ?_
     refine p_inR ?_
     refine p_inR ?_
     refine p_thenR ?_
     refine p_thenR ?_
     refine p_inR ?_
     refine p_thenR ?_
     obtain rfl := Option.some.inj hg
     refine fin1 (fn := Try.f37) s rfl (r_tmp s rfl) ?_
     exact rfl
    replace hg := br_n hg hc34
    apply wp_skip
    refine p_inN ?_
    apply pN
    apply wL
    refine mv s rfl rfl fun a s => ?_
    refine qq s rfl (y_addN (i := k_10) (j := 1) s rfl rfl (in64.2 (by omega))) fun a s => ?_
    refine asg s rfl rfl fun a s => ?_
    apply wN
    exact ⟨m2, Nat.lt_succ_self _, ⟨(k_10 + 1), hg, (s.sb rfl rfl rfl)⟩⟩
   replace hg := br_f hg hc11
   apply wp_exit
   refine p_then ?_
   refine p_then ?_
   refine p_in ?_
   refine p_inN ?_
   apply pN
   exact ⟨hg, (s.sb rfl rfl rfl)⟩
  clear s a; rintro a w ⟨hg, s⟩
  subst hk4
  apply wL
  refine mv s rfl rfl fun a s => ?_
  refine qq s rfl (y_addN (i := i_1) (j := 1) s rfl rfl (in64.2 (by omega))) fun a s => ?_
  refine asg s rfl rfl fun a s => ?_
  apply wN
  exact ⟨m1, Nat.lt_succ_self _, ⟨(i_1 + 1), hg, (s.sb rfl rfl rfl)⟩⟩
 replace hg := br_f hg hc2
 apply wp_exit
 refine p_then ?_
 refine p_then ?_
 refine p_in ?_
 apply pN
 apply wR
 refine asg s rfl rfl fun a s => ?_
 apply wN
 apply wp_ret
 obtain rfl := Option.some.inj hg
 refine fin1 (fn := Try.f37) s rfl (r_tmp s rfl) ?_
 exact rfl
set_option maxHeartbeats 400000 in
theorem c_r03_ready (n : Nat) (M : Bs) (w0 : World) (hM : ∀ b, M b → b < w0.heap.size) (x_ : TypeDecl) (Ap02 : Option Addr) (cp02 : Nat) (Ap03 : Option Addr) (cp03 : Nat) (lp01 : (x_.Name).length ≤ 9223372036854775807) (hp02 : SlR Rep.str M w0 Ap02 (x_.Supers).length cp02 (x_.Supers)) (hp03 : SlR RFeatDecl M w0 Ap03 (x_.Feats).length cp03 (x_.Feats)) (done_ : (List (List UInt8))) (Ap11 : Option Addr) (cp11 : Nat) (hp11 : SlR Rep.str M w0 Ap11 (done_).length cp11 (done_)) (r : Bool) (hg : r03_ready n x_ done_ = some r) :
    Calls Try.prog 56 [.agg #[.string (bs (x_.Name)), .slice (Ap02) ((x_.Supers).length) (cp02), .slice (Ap03) ((x_.Feats).length) (cp03)], .slice (Ap11) ((done_).length) (cp11)].toArray w0 (Ret noB w0 fun v w => v = .bool (r)) := by
 unfold r03_ready at hg
 refine enter M noB func56 rfl rfl hM ?_
 intro a s
 replace s := s.es 101 hp02
 replace s := s.es 102 hp03
 replace s := s.es 103 hp11
 apply wR
 refine l_seq rfl (l_box (zs := [vT (x_.Name), sl Ap02 (x_.Supers) cp02, sl Ap03 (x_.Feats) cp03]) s 1000 rfl rfl rfl rfl fun b2 a w hb hK s => ?_)
 refine asg s rfl rfl fun a s => ?_
 apply wN
 apply wQ
 apply wR
 refine asg s rfl rfl fun a s => ?_
 apply wN
 apply wp_block
 refine c_loop (σ := Nat) (fun m1 a w => ∃ (i_3 : Nat), r03_ready_L0 n x_ done_ m1 i_3 = some r ∧ St (⟨Try.f56.ntmps, M, noB, w0⟩ : Ctx) [(1, sl Ap11 (done_) cp11), (2, vP b2 0), (5, vI (((i_3 : Nat) : Int)))] [(1000, Ob.box b2 [vT (x_.Name), sl Ap02 (x_.Supers) cp02, sl Ap03 (x_.Feats) cp03] 40)] [(101, slF Rep.str (Ap02) ((x_.Supers).length) (cp02) (x_.Supers)), (102, slF RFeatDecl (Ap03) ((x_.Feats).length) (cp03) (x_.Feats)), (103, slF Rep.str (Ap11) ((done_).length) (cp11) (done_))] a w) (fun m1 => m1) n ⟨(0), hg, (s.sb rfl rfl rfl)⟩ ?_
 clear s a; rintro m1 a w ⟨i_3, hg, s⟩
 rcases m1 with _ | m1
 ·rw [r03_ready_L0] at hg; cases hg
 rw [r03_ready_L0] at hg
 apply wQ
 apply wR
 refine mv s rfl rfl fun a s => ?_
 refine qq s rfl (y_boxField (o' := 1) s rfl underlying40 rfl rfl rfl) fun a s => ?_
 refine qq s rfl (y_loadBox1 (kk := 1000) s rfl rfl rfl underlying27 rfl) fun a s => ?_
 refine qq s rfl (y_lenSlice s rfl underlying27) fun a s => ?_
 refine qq s rfl (y_lssN (i := i_3) (j := ((x_.Supers).length)) s rfl rfl) fun a s => ?_
 apply wN
 refine c_dec s rfl (fun hc4 => ?_) (fun hc4 => ?_)
 ·replace hg := br_t hg hc4
  have hmx5 := SlR.mx (s.ft 101 rfl)
  apply wp_skip
  apply pN
  apply wQ
  apply wp_block
  apply wQ
  obtain ⟨x7, hx7, hg⟩ := bind_some hg
  obtain ⟨r9, hr9, hg⟩ := bind_some hg
  apply wL
  refine mv s rfl rfl fun a s => ?_
  refine qq s rfl (y_boxField (o' := 1) s rfl underlying40 rfl rfl rfl) fun a s => ?_
  refine qq s rfl (y_loadBox1 (kk := 1000) s rfl rfl rfl underlying27 rfl) fun a s => ?_
  refine mv s rfl rfl fun a s => ?_
  obtain ⟨p12, hep12, hpp12⟩ := SlR.elemX (s.ft 101 rfl) hx7
  refine qq s rfl (y_elem (sz := 1) (i := i_3) s rfl rfl underlying27 rfl hep12 rfl (lt_of_get hx7)) fun a s => ?_
  obtain ⟨hlq13, hmq13, csq13, hdq13, hcq13⟩ := hpp12
  obtain ⟨rfl, lq131⟩ := hdq13
  refine qq s rfl (y_ldp1 s rfl hlq13 hmq13 (hcq13 0 _ rfl) underlying9 rfl) fun a s => ?_
  refine l_seq rfl (l_call (cap := []) s rfl func28 rfl (by kernel_rfl) rfl rfl (c_r03_Among n _ _ s.lt done_ (Ap11) (cp11) (s.ft 103 rfl) x7 (by omega) r9 hr9) fun v14 a w hK hp s => ?_)
  obtain rfl := hp
  refine qq s rfl (y_not s rfl) fun a s => ?_
  apply wN
  refine c_cond s rfl (fun hc16 => ?_) (fun hc16 => ?_)
  ·replace hg := br_t hg hc16
   apply wR
   refine asg s rfl rfl fun a s => ?_
   apply wN
   apply wp_ret
   refine p_inR ?_
   refine p_thenR ?_
   refine p_thenR ?_
   refine p_inR ?_
   refine p_thenR ?_
   obtain rfl := Option.some.inj hg
   refine fin1 (fn := Try.f56) s rfl (r_tmp s rfl) ?_
   exact rfl
  replace hg := br_n hg hc16
  apply wp_skip
  refine p_inN ?_
  apply pN
  apply wL
  refine mv s rfl rfl fun a s => ?_
  refine qq s rfl (y_addN (i := i_3) (j := 1) s rfl rfl (in64.2 (by omega))) fun a s => ?_
  refine asg s rfl rfl fun a s => ?_
  apply wN
  exact ⟨m1, Nat.lt_succ_self _, ⟨(i_3 + 1), hg, (s.sb rfl rfl rfl)⟩⟩
 replace hg := br_f hg hc4
 apply wp_exit
 refine p_then ?_
 refine p_then ?_
 refine p_in ?_
 apply pN
 apply wR
 refine asg s rfl rfl fun a s => ?_
 apply wN
 apply wp_ret
 obtain rfl := Option.some.inj hg
 refine fin1 (fn := Try.f56) s rfl (r_tmp s rfl) ?_
 exact rfl
set_option maxHeartbeats 400000 in
theorem c_r03_placed (n : Nat) (M : Bs) (w0 : World) (hM : ∀ b, M b → b < w0.heap.size) (d_ : (List TypeDecl)) (Ap01 : Option Addr) (cp01 : Nat) (hp01 : SlR RTypeDecl M w0 Ap01 (d_).length cp01 (d_)) (r : (List (List UInt8))) (hg : r03_placed n d_ = some r) :
    Calls Try.prog 38 [.slice (Ap01) ((d_).length) (cp01)].toArray w0 (Ret noB w0 fun v w => ∃ (Aa1 : Option Addr), ∃ (ca1 : Nat), v = .slice (Aa1) ((r).length) (ca1) ∧ (SlR Rep.str M w Aa1 (r).length ca1 (r))) := by
 unfold r03_placed at hg
 refine enter M noB func38 rfl rfl hM ?_
 intro a s
 replace s := s.es 101 hp01
 apply wR
 refine asg s rfl rfl fun a s => ?_
 apply wN
 apply wR
 refine asg s rfl rfl fun a s => ?_
 apply wN
 apply wQ
 apply wR
 refine asg s rfl rfl fun a s => ?_
 apply wN
 apply wp_block
 replace s := s.nilRow 700102 9 1 rfl
 replace s := s.add 103 (rdF Rep.str [] []) (RdAll.nil _ _ _)
 refine c_loop (σ := Nat) (fun m1 a w => ∃ (out_1 : (List (List UInt8))) (more_5 : Bool) (A2 : Option Addr) (c3 : Nat) (cs4 : List Value), r03_placed_L0 n d_ m1 out_1 more_5 = some r ∧ St (⟨Try.f38.ntmps, M, noB, w0⟩ : Ctx) [(0, sl Ap01 (d_) cp01), (3, sl A2 (out_1) c3), (4, .bool (more_5))] [(700102, Ob.row (A2) ((out_1).length) (c3) 9 1 (cs4))] [(101, slF RTypeDecl (Ap01) ((d_).length) (cp01) (d_)), (103, rdF Rep.str (cs4) (out_1))] a w) (fun m1 => m1) n ⟨([]), (true), (none), (0), ([]), hg, (s.sb rfl rfl rfl)⟩ ?_
 clear s a; rintro m1 a w ⟨out_1, more_5, A2, c3, cs4, hg, s⟩
 rcases m1 with _ | m1
 ·rw [r03_placed_L0] at hg; cases hg
 rw [r03_placed_L0] at hg
 apply wQ
 apply wR
 refine mv s rfl rfl fun a s => ?_
 apply wN
 refine c_cond s rfl (fun hc6 => ?_) (fun hc6 => ?_)
 ·replace hg := br_t hg hc6
  apply wp_skip
  apply pN
  apply wp_block
  apply wR
  refine asg s rfl rfl fun a s => ?_
  apply wN
  apply wR
  refine asg s rfl rfl fun a s => ?_
  apply wN
  apply wQ
  apply wR
  refine asg s rfl rfl fun a s => ?_
  apply wN
  obtain ⟨k7, hg, hk7⟩ := jn_some hg
  refine c_post (fun a w => ∃ (more_8 : Bool) (next_9 : (List UInt8)), k7 more_8 next_9 = some r ∧ ((next_9).length ≤ 9223372036854775807) ∧ St (⟨Try.f38.ntmps, M, noB, w0⟩ : Ctx) [(0, sl Ap01 (d_) cp01), (3, sl A2 (out_1) c3), (4, .bool (more_8)), (5, vT next_9)] [(700102, Ob.row (A2) ((out_1).length) (c3) 9 1 (cs4))] [(101, slF RTypeDecl (Ap01) ((d_).length) (cp01) (d_)), (103, rdF Rep.str (cs4) (out_1))] a w) ?_ ?_
  ·apply wp_block
   refine c_loop (σ := Nat) (fun m2 a w => ∃ (more_10 : Bool) (next_11 : (List UInt8)) (i_12 : Nat), r03_placed_L1 n d_ out_1 k7 m2 more_10 next_11 i_12 = some r ∧ ((next_11).length ≤ 9223372036854775807) ∧ St (⟨Try.f38.ntmps, M, noB, w0⟩ : Ctx) [(0, sl Ap01 (d_) cp01), (3, sl A2 (out_1) c3), (4, .bool (more_10)), (5, vT next_11), (6, vI (((i_12 : Nat) : Int)))] [(700102, Ob.row (A2) ((out_1).length) (c3) 9 1 (cs4))] [(101, slF RTypeDecl (Ap01) ((d_).length) (cp01) (d_)), (103, rdF Rep.str (cs4) (out_1))] a w) (fun m2 => m2) n ⟨(false), ([]), (0), hg, (by first | omega | (rw [List.length_append]; omega) | (simp only [List.length_append]; omega) | (simp only [List.length_append, List.length_take, List.length_drop, List.length_cons, List.length_nil]; omega) | exact smin_len (by omega) (by omega)), (s.sb rfl rfl rfl)⟩ ?_
   clear s a; rintro m2 a w ⟨more_10, next_11, i_12, hg, lnext_11, s⟩
   rcases m2 with _ | m2
   ·rw [r03_placed_L1] at hg; cases hg
   rw [r03_placed_L1] at hg
   apply wQ
   apply wR
   refine mv s rfl rfl fun a s => ?_
   refine mv s rfl rfl fun a s => ?_
   refine qq s rfl (y_lenSlice s rfl underlying22) fun a s => ?_
   refine qq s rfl (y_lssN (i := i_12) (j := ((d_).length)) s rfl rfl) fun a s => ?_
   apply wN
   refine c_dec s rfl (fun hc13 => ?_) (fun hc13 => ?_)
   ·replace hg := br_t hg hc13
    have hmx14 := SlR.mx (s.ft 101 rfl)
    apply wp_skip
    apply pN
    apply wQ
    apply wp_block
    apply wQ
    apply wQ
    obtain ⟨k15, hg, hk15⟩ := jn_some hg
    refine c_post (fun a w => ∃ (t_16 : Bool), k15 t_16 = some r ∧ St (⟨Try.f38.ntmps, M, noB, w0⟩ : Ctx) [(0, sl Ap01 (d_) cp01), (3, sl A2 (out_1) c3), (4, .bool (more_10)), (5, vT next_11), (6, vI (((i_12 : Nat) : Int))), (29, .bool (t_16))] [(700102, Ob.row (A2) ((out_1).length) (c3) 9 1 (cs4))] [(101, slF RTypeDecl (Ap01) ((d_).length) (cp01) (d_)), (103, rdF Rep.str (cs4) (out_1))] a w) ?_ ?_
    ·obtain ⟨x18, hx18, hg⟩ := bind_some hg
     obtain ⟨r20, hr20, hg⟩ := bind_some hg
     rcases Bool.eq_false_or_eq_true (r20) with hs23 | hs23
     ·replace hg := br_t hg hs23
      apply wL
      refine mv s rfl rfl fun a s => ?_
      refine mv s rfl rfl fun a s => ?_
      refine mv s rfl rfl fun a s => ?_
      obtain ⟨p24, hep24, hpp24⟩ := SlR.elemX (s.ft 101 rfl) hx18
      refine qq s rfl (y_elem (sz := 3) (i := i_12) s rfl rfl underlying22 rfl hep24 rfl (lt_of_get hx18)) fun a s => ?_
      refine qq s rfl (y_ptrField (o' := 0) s rfl underlying40 rfl rfl rfl) fun a s => ?_
      obtain ⟨hlq25, hmq25, csq25, hdq25, hcq25⟩ := hpp24
      obtain ⟨Aq252, cq252, Aq253, cq253, rfl, lq251, hq252, hq253⟩ := RTypeDecl.open hdq25
      replace s := s.ns 107 hq252
      replace s := s.ns 108 hq253
      refine qq s rfl (y_ldp1 s rfl hlq25 hmq25 (hcq25 0 _ rfl) underlying9 rfl) fun a s => ?_
      have hT := s
      replace hT := hT.fz (R := Rep.str) (kk := 700102) [] 109 rfl rfl (hT.ft 103 rfl) rfl
      refine l_seq rfl (l_call (cap := []) s rfl func28 rfl (by kernel_rfl) rfl rfl (c_r03_Among n _ _ hT.lt out_1 (A2) (c3) (hT.ft 109 rfl) x18.Name (by omega) r20 hr20) fun v26 a w hK hp s => ?_)
      obtain rfl := hp.trans (congrArg Value.bool hs23)
      refine mv s rfl rfl fun a s => ?_
      refine gn s rfl fun a s => ?_
      refine gn s rfl fun a s => ?_
      refine gn s rfl fun a s => ?_
      refine gn s rfl fun a s => ?_
      refine gn s rfl fun a s => ?_
      refine gn s rfl fun a s => ?_
      refine gn s rfl fun a s => ?_
      refine qq s rfl (y_pick_t s rfl rfl) fun a s => ?_
      apply wN
      exact ⟨(true), hg, (s.sb rfl rfl rfl)⟩
     replace hg := br_n hg hs23
     obtain ⟨r30, hr30, hg⟩ := bind_some hg
     apply wL
     refine mv s rfl rfl fun a s => ?_
     refine mv s rfl rfl fun a s => ?_
     refine mv s rfl rfl fun a s => ?_
     obtain ⟨p33, hep33, hpp33⟩ := SlR.elemX (s.ft 101 rfl) hx18
     refine qq s rfl (y_elem (sz := 3) (i := i_12) s rfl rfl underlying22 rfl hep33 rfl (lt_of_get hx18)) fun a s => ?_
     refine qq s rfl (y_ptrField (o' := 0) s rfl underlying40 rfl rfl rfl) fun a s => ?_
     obtain ⟨hlq34, hmq34, csq34, hdq34, hcq34⟩ := hpp33
     obtain ⟨Aq342, cq342, Aq343, cq343, rfl, lq341, hq342, hq343⟩ := RTypeDecl.open hdq34
     replace s := s.ns 113 hq342
     replace s := s.ns 114 hq343
     refine qq s rfl (y_ldp1 s rfl hlq34 hmq34 (hcq34 0 _ rfl) underlying9 rfl) fun a s => ?_
     have hT := s
     replace hT := hT.fz (R := Rep.str) (kk := 700102) [] 115 rfl rfl (hT.ft 103 rfl) rfl
     refine l_seq rfl (l_call (cap := []) s rfl func28 rfl (by kernel_rfl) rfl rfl (c_r03_Among n _ _ hT.lt out_1 (A2) (c3) (hT.ft 115 rfl) x18.Name (by omega) r20 hr20) fun v35 a w hK hp s => ?_)
     obtain rfl := hp.trans (congrArg Value.bool hs23)
     refine mv s rfl rfl fun a s => ?_
     refine gm s rfl rfl fun a s => ?_
     refine gm s rfl rfl fun a s => ?_
     obtain ⟨p37, hep37, hpp37⟩ := SlR.elemX (s.ft 101 rfl) hx18
     refine gy s rfl (y_elem (sz := 3) (i := i_12) s rfl rfl underlying22 rfl hep37 rfl (lt_of_get hx18)) fun a s => ?_
     obtain ⟨hlq38, hmq38, csq38, hdq38, hcq38⟩ := hpp37
     obtain ⟨Aq382, cq382, Aq383, cq383, rfl, lq381, hq382, hq383⟩ := RTypeDecl.open hdq38
     replace s := s.ns 116 hq382
     replace s := s.ns 117 hq383
     refine gy s rfl (y_ldp s rfl hlq38 hmq38 (by simpa using hcq38) underlying40 rfl rfl) fun a s => ?_
     refine gm s rfl rfl fun a s => ?_
     have hT := s
     replace hT := hT.fz (R := Rep.str) (kk := 700102) [] 118 rfl rfl (hT.ft 103 rfl) rfl
     refine gl s rfl (l_call (cap := []) s rfl func56 rfl (by kernel_rfl) rfl rfl (c_r03_ready n _ _ hT.lt x18 (Aq382) (cq382) (Aq383) (cq383) (by omega) (hT.ft 116 rfl) (hT.ft 117 rfl) out_1 (A2) (c3) (hT.ft 118 rfl) r30 hr30) fun v39 a w hK hp s => ?_)
     obtain rfl := hp
     refine gy s rfl (y_not s rfl) fun a s => ?_
     refine qq s rfl (y_pick_f s rfl rfl) fun a s => ?_
     apply wN
     exact ⟨(!(r30)), hg, (s.sb rfl rfl rfl)⟩
    clear s a; rintro a w ⟨t_16, hg, s⟩
    subst hk15
    refine c_cond s rfl (fun hc41 => ?_) (fun hc41 => ?_)
    ·replace hg := br_t hg hc41
     apply wp_exit
     refine p_then ?_
     refine p_in ?_
     apply pN
     apply wL
     refine mv s rfl rfl fun a s => ?_
     refine qq s rfl (y_addN (i := i_12) (j := 1) s rfl rfl (in64.2 (by omega))) fun a s => ?_
     refine asg s rfl rfl fun a s => ?_
     apply wN
     exact ⟨m2, Nat.lt_succ_self _, ⟨(more_10), (next_11), (i_12 + 1), hg, (by omega), (s.sb rfl rfl rfl)⟩⟩
    replace hg := br_n hg hc41
    apply wp_skip
    apply pN
    apply wQ
    apply wQ
    obtain ⟨k42, hg, hk42⟩ := jn_some hg
    refine c_post (fun a w => ∃ (t_43 : Bool), k42 t_43 = some r ∧ St (⟨Try.f38.ntmps, M, noB, w0⟩ : Ctx) [(0, sl Ap01 (d_) cp01), (3, sl A2 (out_1) c3), (5, vT next_11), (6, vI (((i_12 : Nat) : Int))), (40, .bool (t_43))] [(700102, Ob.row (A2) ((out_1).length) (c3) 9 1 (cs4))] [(101, slF RTypeDecl (Ap01) ((d_).length) (cp01) (d_)), (103, rdF Rep.str (cs4) (out_1))] a w) ?_ ?_
    ·rcases Bool.eq_false_or_eq_true (!(more_10)) with hs44 | hs44
     ·replace hg := br_t hg hs44
      apply wL
      refine mv s rfl rfl fun a s => ?_
      refine qq s rfl (yl_b (y_not s rfl) hs44) fun a s => ?_
      refine mv s rfl rfl fun a s => ?_
      refine gn s rfl fun a s => ?_
      refine gn s rfl fun a s => ?_
      refine gn s rfl fun a s => ?_
      refine gn s rfl fun a s => ?_
      refine gn s rfl fun a s => ?_
      refine gn s rfl fun a s => ?_
      refine gn s rfl fun a s => ?_
      refine qq s rfl (y_pick_t s rfl rfl) fun a s => ?_
      apply wN
      exact ⟨(true), hg, (s.sb rfl rfl rfl)⟩
     replace hg := br_n hg hs44
     obtain ⟨x46, hx46, hg⟩ := bind_some hg
     apply wL
     refine mv s rfl rfl fun a s => ?_
     refine qq s rfl (yl_b (y_not s rfl) hs44) fun a s => ?_
     refine mv s rfl rfl fun a s => ?_
     refine gm s rfl rfl fun a s => ?_
     refine gm s rfl rfl fun a s => ?_
     obtain ⟨p48, hep48, hpp48⟩ := SlR.elemX (s.ft 101 rfl) hx46
     refine gy s rfl (y_elem (sz := 3) (i := i_12) s rfl rfl underlying22 rfl hep48 rfl (lt_of_get hx46)) fun a s => ?_
     refine gy s rfl (y_ptrField (o' := 0) s rfl underlying40 rfl rfl rfl) fun a s => ?_
     obtain ⟨hlq49, hmq49, csq49, hdq49, hcq49⟩ := hpp48
     obtain ⟨Aq492, cq492, Aq493, cq493, rfl, lq491, hq492, hq493⟩ := RTypeDecl.open hdq49
     replace s := s.ns 121 hq492
     replace s := s.ns 122 hq493
     refine gy s rfl (y_ldp1 s rfl hlq49 hmq49 (hcq49 0 _ rfl) underlying9 rfl) fun a s => ?_
     refine gm s rfl rfl fun a s => ?_
     refine gy s rfl (y_slss s rfl rfl) fun a s => ?_
     refine qq s rfl (y_pick_f s rfl rfl) fun a s => ?_
     apply wN
     exact ⟨(Op.bytesLess x46.Name next_11), hg, (s.sb rfl rfl rfl)⟩
    clear s a; rintro a w ⟨t_43, hg, s⟩
    subst hk42
    refine c_cond s rfl (fun hc50 => ?_) (fun hc50 => ?_)
    ·replace hg := br_t hg hc50
     obtain ⟨x52, hx52, hg⟩ := bind_some hg
     apply wL
     refine mv s rfl rfl fun a s => ?_
     refine mv s rfl rfl fun a s => ?_
     obtain ⟨p54, hep54, hpp54⟩ := SlR.elemX (s.ft 101 rfl) hx52
     refine qq s rfl (y_elem (sz := 3) (i := i_12) s rfl rfl underlying22 rfl hep54 rfl (lt_of_get hx52)) fun a s => ?_
     refine qq s rfl (y_ptrField (o' := 0) s rfl underlying40 rfl rfl rfl) fun a s => ?_
     obtain ⟨hlq55, hmq55, csq55, hdq55, hcq55⟩ := hpp54
     obtain ⟨Aq552, cq552, Aq553, cq553, rfl, lq551, hq552, hq553⟩ := RTypeDecl.open hdq55
     replace s := s.ns 125 hq552
     replace s := s.ns 126 hq553
     refine qq s rfl (y_ldp1 s rfl hlq55 hmq55 (hcq55 0 _ rfl) underlying9 rfl) fun a s => ?_
     refine asg s rfl rfl fun a s => ?_
     apply wN
     apply wL
     refine asg s rfl rfl fun a s => ?_
     apply wO
     refine p_inN ?_
     apply pN
     apply wL
     refine mv s rfl rfl fun a s => ?_
     refine qq s rfl (y_addN (i := i_12) (j := 1) s rfl rfl (in64.2 (by omega))) fun a s => ?_
     refine asg s rfl rfl fun a s => ?_
     apply wN
     exact ⟨m2, Nat.lt_succ_self _, ⟨(true), (x52.Name), (i_12 + 1), hg, (by omega), (s.sb rfl rfl rfl)⟩⟩
    replace hg := br_n hg hc50
    apply wp_skip
    apply pN
    apply wL
    refine asg s rfl rfl fun a s => ?_
    apply wO
    refine p_inN ?_
    apply pN
    apply wL
    refine mv s rfl rfl fun a s => ?_
    refine qq s rfl (y_addN (i := i_12) (j := 1) s rfl rfl (in64.2 (by omega))) fun a s => ?_
    refine asg s rfl rfl fun a s => ?_
    apply wN
    exact ⟨m2, Nat.lt_succ_self _, ⟨(true), (next_11), (i_12 + 1), hg, (by omega), (s.sb rfl rfl rfl)⟩⟩
   replace hg := br_f hg hc13
   apply wp_exit
   refine p_then ?_
   refine p_then ?_
   refine p_in ?_
   apply pN
   exact ⟨(more_10), (next_11), hg, (by omega), (s.sb rfl rfl rfl)⟩
  clear s a; rintro a w ⟨more_8, next_9, hg, lnext_9, s⟩
  subst hk7
  apply wR
  refine mv s rfl rfl fun a s => ?_
  apply wN
  refine c_cond s rfl (fun hc56 => ?_) (fun hc56 => ?_)
  ·replace hg := br_t hg hc56
   obtain ⟨hk58, hg⟩ := chk_some hg
   apply wL
   refine mv s rfl rfl fun a s => ?_
   refine mv s rfl rfl fun a s => ?_
   refine l_seq rfl (l_buildDense (sz := 1) s 2402 rfl rfl rfl underlying27 rfl rfl rfl rfl rfl rfl rfl fun b61 a w hbb61 hK s => ?_)
   clear hbb61
   replace s := s.add 129 (rdF Rep.str (cellsOfL [vT next_9]) ([next_9])) (RdAll.cons (by exact ⟨rfl, (by omega)⟩) (RdAll.nil _ _ _))
   have hs63 := row_src (s.wd.holds 2402 _ rfl) (RdAll.one (s.ft 129 rfl))
   refine l_seq rfl (l_append (sz := 1) (by_ := 16) (N := (out_1 ++ [next_9]).length) (ys := cs4 ++ (cellsOfL [vT next_9])) s 700102 rfl rfl rfl underlying27 rfl rfl rfl rfl rfl hs63 (by first | (simp; done) | (simp; omega)) rfl (by have hr := hk58; clear hg; first | omega | (simp only [List.length_append, List.length_cons, List.length_nil] at hr ⊢; omega) | (simp at hr ⊢; omega)) (by have hr := hk58; clear hg; first | omega | (simp only [List.length_append, List.length_cons, List.length_nil] at hr ⊢; omega) | (simp at hr ⊢; omega)) rfl fun Aq62 cq62 a w hA hK s => ?_)
   replace s := s.add 130 (rdF Rep.str (cs4 ++ (cellsOfL [vT next_9])) (out_1 ++ [next_9])) (RdAll.append (s.ft 103 rfl) (s.ft 129 rfl))
   refine asg s rfl rfl fun a s => ?_
   apply wO
   refine p_inN ?_
   apply pN
   replace s := s.add 103 (rdF Rep.str (cs4 ++ (cellsOfL [vT next_9])) (out_1 ++ [next_9])) (s.ft 130 rfl)
   exact ⟨m1, Nat.lt_succ_self _, ⟨(out_1 ++ [next_9]), (more_8), (Aq62), (cq62), (cs4 ++ (cellsOfL [vT next_9])), hg, (s.sb rfl rfl rfl)⟩⟩
  replace hg := br_n hg hc56
  apply wp_skip
  refine p_inN ?_
  apply pN
  replace s := s.al 103 103 rfl
  exact ⟨m1, Nat.lt_succ_self _, ⟨(out_1), (more_8), (A2), (c3), (cs4), hg, (s.sb rfl rfl rfl)⟩⟩
 replace hg := br_n hg hc6
 apply wp_exit
 refine p_then ?_
 refine p_then ?_
 refine p_in ?_
 apply pN
 apply wR
 refine mv s rfl rfl fun a s => ?_
 refine asg s rfl rfl fun a s => ?_
 apply wN
 apply wp_ret
 obtain rfl := Option.some.inj hg
 refine fin1 (fn := Try.f38) s rfl (r_tmp s rfl) ?_
 exact ⟨(A2), (c3), rfl, (s.rowOut (R := Rep.str) (kk := 700102) rfl rfl (s.ft 103 rfl))⟩
end Go.Proofs.Ytoeolfnjblibpaa
