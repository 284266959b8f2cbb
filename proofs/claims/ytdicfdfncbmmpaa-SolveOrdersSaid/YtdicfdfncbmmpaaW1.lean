/- Chapter 42: the walks, part 1 -/
import Derived.Test.YtdicfdfncbmmpaaD1
namespace Go.Proofs.Ytdicfdfncbmmpaa
open Go.Gl Go.RowKit
set_option linter.unusedVariables false
set_option linter.unusedSimpArgs false
set_option maxRecDepth 4000

set_option maxHeartbeats 400000 in
theorem c_r39_sorted (n : Nat) (M : Bs) (w0 : World) (hM : ∀ b, M b → b < w0.heap.size) (s_ : (List UInt8)) (lp01 : (s_).length ≤ 9223372036854775807) (r : Bool) (hg : r39_sorted n s_ = some r) :
    Calls Try.prog 52 [.string (bs (s_))].toArray w0 (Ret noB w0 fun v w => v = .bool (r)) := by
 unfold r39_sorted at hg
 refine enter M noB Try.func52 rfl rfl hM ?_
 intro a hS
 apply wR
 refine qq hS rfl (y_assign hS rfl) fun a hS => ?_
 apply wN
 apply wp_seq
 rcases Decidable.em ((s_ : List UInt8) = [104]) with hs1 | hs1
 ·have hs1e : decide ((s_ : List UInt8) = [104]) = true := decide_eq_true hs1
  replace hg := br_t hg hs1
  apply wp_region_lit
  refine qq hS rfl (y_move hS rfl) fun a hS => ?_
  refine qq hS rfl (yl_b (y_seq hS rfl rfl) hs1e) fun a hS => ?_
  refine qq hS rfl (y_move hS rfl) fun a hS => ?_
  refine gn hS rfl fun a hS => ?_
  refine gn hS rfl fun a hS => ?_
  refine qq hS rfl (y_pick_t hS rfl rfl) fun a hS => ?_
  refine qq hS rfl (y_move hS rfl) fun a hS => ?_
  refine gn hS rfl fun a hS => ?_
  refine gn hS rfl fun a hS => ?_
  refine qq hS rfl (y_pick_t hS rfl rfl) fun a hS => ?_
  refine qq hS rfl (y_move hS rfl) fun a hS => ?_
  refine gn hS rfl fun a hS => ?_
  refine gn hS rfl fun a hS => ?_
  refine qq hS rfl (y_pick_t hS rfl rfl) fun a hS => ?_
  refine qq hS rfl (y_assign hS rfl) fun a hS => ?_
  apply wN
  apply wp_ret
  obtain rfl := Option.some.inj hg
  refine fin1 (fn := Try.f52) hS rfl (r_tmp hS rfl) ?_
  exact rfl
 ·have hs1e : decide ((s_ : List UInt8) = [104]) = false := decide_eq_false hs1
  replace hg := br_f hg hs1
  rcases Decidable.em ((s_ : List UInt8) = [101]) with hs2 | hs2
  ·have hs2e : decide ((s_ : List UInt8) = [101]) = true := decide_eq_true hs2
   replace hg := br_t hg hs2
   apply wp_region_lit
   refine qq hS rfl (y_move hS rfl) fun a hS => ?_
   refine qq hS rfl (yl_b (y_seq hS rfl rfl) hs1e) fun a hS => ?_
   refine qq hS rfl (y_move hS rfl) fun a hS => ?_
   refine gy hS rfl (y_move hS rfl) fun a hS => ?_
   refine gy hS rfl (yl_b (y_seq hS rfl rfl) hs2e) fun a hS => ?_
   refine qq hS rfl (y_pick_f hS rfl rfl) fun a hS => ?_
   refine qq hS rfl (y_move hS rfl) fun a hS => ?_
   refine gn hS rfl fun a hS => ?_
   refine gn hS rfl fun a hS => ?_
   refine qq hS rfl (y_pick_t hS rfl rfl) fun a hS => ?_
   refine qq hS rfl (y_move hS rfl) fun a hS => ?_
   refine gn hS rfl fun a hS => ?_
   refine gn hS rfl fun a hS => ?_
   refine qq hS rfl (y_pick_t hS rfl rfl) fun a hS => ?_
   refine qq hS rfl (y_assign hS rfl) fun a hS => ?_
   apply wN
   apply wp_ret
   obtain rfl := Option.some.inj hg
   refine fin1 (fn := Try.f52) hS rfl (r_tmp hS rfl) ?_
   exact rfl
  ·have hs2e : decide ((s_ : List UInt8) = [101]) = false := decide_eq_false hs2
   replace hg := br_f hg hs2
   rcases Decidable.em ((s_ : List UInt8) = [120]) with hs3 | hs3
   ·have hs3e : decide ((s_ : List UInt8) = [120]) = true := decide_eq_true hs3
    replace hg := br_t hg hs3
    apply wp_region_lit
    refine qq hS rfl (y_move hS rfl) fun a hS => ?_
    refine qq hS rfl (yl_b (y_seq hS rfl rfl) hs1e) fun a hS => ?_
    refine qq hS rfl (y_move hS rfl) fun a hS => ?_
    refine gy hS rfl (y_move hS rfl) fun a hS => ?_
    refine gy hS rfl (yl_b (y_seq hS rfl rfl) hs2e) fun a hS => ?_
    refine qq hS rfl (y_pick_f hS rfl rfl) fun a hS => ?_
    refine qq hS rfl (y_move hS rfl) fun a hS => ?_
    refine gy hS rfl (y_move hS rfl) fun a hS => ?_
    refine gy hS rfl (yl_b (y_seq hS rfl rfl) hs3e) fun a hS => ?_
    refine qq hS rfl (y_pick_f hS rfl rfl) fun a hS => ?_
    refine qq hS rfl (y_move hS rfl) fun a hS => ?_
    refine gn hS rfl fun a hS => ?_
    refine gn hS rfl fun a hS => ?_
    refine qq hS rfl (y_pick_t hS rfl rfl) fun a hS => ?_
    refine qq hS rfl (y_assign hS rfl) fun a hS => ?_
    apply wN
    apply wp_ret
    obtain rfl := Option.some.inj hg
    refine fin1 (fn := Try.f52) hS rfl (r_tmp hS rfl) ?_
    exact rfl
   ·have hs3e : decide ((s_ : List UInt8) = [120]) = false := decide_eq_false hs3
    replace hg := br_f hg hs3
    apply wp_region_lit
    refine qq hS rfl (y_move hS rfl) fun a hS => ?_
    refine qq hS rfl (yl_b (y_seq hS rfl rfl) hs1e) fun a hS => ?_
    refine qq hS rfl (y_move hS rfl) fun a hS => ?_
    refine gy hS rfl (y_move hS rfl) fun a hS => ?_
    refine gy hS rfl (yl_b (y_seq hS rfl rfl) hs2e) fun a hS => ?_
    refine qq hS rfl (y_pick_f hS rfl rfl) fun a hS => ?_
    refine qq hS rfl (y_move hS rfl) fun a hS => ?_
    refine gy hS rfl (y_move hS rfl) fun a hS => ?_
    refine gy hS rfl (yl_b (y_seq hS rfl rfl) hs3e) fun a hS => ?_
    refine qq hS rfl (y_pick_f hS rfl rfl) fun a hS => ?_
    refine qq hS rfl (y_move hS rfl) fun a hS => ?_
    refine gy hS rfl (y_move hS rfl) fun a hS => ?_
    refine gy hS rfl (y_seq hS rfl rfl) fun a hS => ?_
    refine qq hS rfl (y_pick_f hS rfl rfl) fun a hS => ?_
    refine qq hS rfl (y_assign hS rfl) fun a hS => ?_
    apply wN
    apply wp_ret
    obtain rfl := Option.some.inj hg
    refine fin1 (fn := Try.f52) hS rfl (r_tmp hS rfl) ?_
    exact rfl
set_option maxHeartbeats 400000 in
theorem c_r01_digit (n : Nat) (M : Bs) (w0 : World) (hM : ∀ b, M b → b < w0.heap.size) (c_ : UInt8) (r : Bool) (hg : r01_digit n c_ = some r) :
    Calls Try.prog 69 [.int .u8 (((c_.toNat : Nat) : Int))].toArray w0 (Ret noB w0 fun v w => v = .bool (r)) := by
 unfold r01_digit at hg
 refine enter M noB Try.func69 rfl rfl hM ?_
 intro a hS
 apply wR
 refine qq hS rfl (y_assign hS rfl) fun a hS => ?_
 apply wN
 apply wp_seq
 rcases Decidable.em ((48 : Nat) ≤ c_.toNat) with hs1 | hs1
 ·have hs1e : decide ((48 : Nat) ≤ c_.toNat) = true := decide_eq_true hs1
  replace hg := br_t hg hs1
  apply wp_region_lit
  refine qq hS rfl (y_move hS rfl) fun a hS => ?_
  refine qq hS rfl (yl_b (y_geqN (i := c_.toNat) (j := 48) hS rfl rfl) hs1e) fun a hS => ?_
  refine qq hS rfl (y_move hS rfl) fun a hS => ?_
  refine gy hS rfl (y_move hS rfl) fun a hS => ?_
  refine gy hS rfl (y_leqN (i := c_.toNat) (j := 57) hS rfl rfl) fun a hS => ?_
  refine qq hS rfl (y_pick_t hS rfl rfl) fun a hS => ?_
  refine qq hS rfl (y_assign hS rfl) fun a hS => ?_
  apply wN
  apply wp_ret
  obtain rfl := Option.some.inj hg
  refine fin1 (fn := Try.f69) hS rfl (r_tmp hS rfl) ?_
  exact rfl
 ·have hs1e : decide ((48 : Nat) ≤ c_.toNat) = false := decide_eq_false hs1
  replace hg := br_f hg hs1
  apply wp_region_lit
  refine qq hS rfl (y_move hS rfl) fun a hS => ?_
  refine qq hS rfl (yl_b (y_geqN (i := c_.toNat) (j := 48) hS rfl rfl) hs1e) fun a hS => ?_
  refine qq hS rfl (y_move hS rfl) fun a hS => ?_
  refine gn hS rfl fun a hS => ?_
  refine gn hS rfl fun a hS => ?_
  refine qq hS rfl (y_pick_f hS rfl rfl) fun a hS => ?_
  refine qq hS rfl (y_assign hS rfl) fun a hS => ?_
  apply wN
  apply wp_ret
  obtain rfl := Option.some.inj hg
  refine fin1 (fn := Try.f69) hS rfl (r_tmp hS rfl) ?_
  exact rfl
set_option maxHeartbeats 400000 in
theorem c_r01_upper (n : Nat) (M : Bs) (w0 : World) (hM : ∀ b, M b → b < w0.heap.size) (c_ : UInt8) (r : Bool) (hg : r01_upper n c_ = some r) :
    Calls Try.prog 91 [.int .u8 (((c_.toNat : Nat) : Int))].toArray w0 (Ret noB w0 fun v w => v = .bool (r)) := by
 unfold r01_upper at hg
 refine enter M noB Try.func91 rfl rfl hM ?_
 intro a hS
 apply wR
 refine qq hS rfl (y_assign hS rfl) fun a hS => ?_
 apply wN
 apply wp_seq
 rcases Decidable.em ((65 : Nat) ≤ c_.toNat) with hs1 | hs1
 ·have hs1e : decide ((65 : Nat) ≤ c_.toNat) = true := decide_eq_true hs1
  replace hg := br_t hg hs1
  apply wp_region_lit
  refine qq hS rfl (y_move hS rfl) fun a hS => ?_
  refine qq hS rfl (yl_b (y_geqN (i := c_.toNat) (j := 65) hS rfl rfl) hs1e) fun a hS => ?_
  refine qq hS rfl (y_move hS rfl) fun a hS => ?_
  refine gy hS rfl (y_move hS rfl) fun a hS => ?_
  refine gy hS rfl (y_leqN (i := c_.toNat) (j := 90) hS rfl rfl) fun a hS => ?_
  refine qq hS rfl (y_pick_t hS rfl rfl) fun a hS => ?_
  refine qq hS rfl (y_assign hS rfl) fun a hS => ?_
  apply wN
  apply wp_ret
  obtain rfl := Option.some.inj hg
  refine fin1 (fn := Try.f91) hS rfl (r_tmp hS rfl) ?_
  exact rfl
 ·have hs1e : decide ((65 : Nat) ≤ c_.toNat) = false := decide_eq_false hs1
  replace hg := br_f hg hs1
  apply wp_region_lit
  refine qq hS rfl (y_move hS rfl) fun a hS => ?_
  refine qq hS rfl (yl_b (y_geqN (i := c_.toNat) (j := 65) hS rfl rfl) hs1e) fun a hS => ?_
  refine qq hS rfl (y_move hS rfl) fun a hS => ?_
  refine gn hS rfl fun a hS => ?_
  refine gn hS rfl fun a hS => ?_
  refine qq hS rfl (y_pick_f hS rfl rfl) fun a hS => ?_
  refine qq hS rfl (y_assign hS rfl) fun a hS => ?_
  apply wN
  apply wp_ret
  obtain rfl := Option.some.inj hg
  refine fin1 (fn := Try.f91) hS rfl (r_tmp hS rfl) ?_
  exact rfl
set_option maxHeartbeats 400000 in
theorem c_r01_lower (n : Nat) (M : Bs) (w0 : World) (hM : ∀ b, M b → b < w0.heap.size) (c_ : UInt8) (r : Bool) (hg : r01_lower n c_ = some r) :
    Calls Try.prog 92 [.int .u8 (((c_.toNat : Nat) : Int))].toArray w0 (Ret noB w0 fun v w => v = .bool (r)) := by
 unfold r01_lower at hg
 refine enter M noB Try.func92 rfl rfl hM ?_
 intro a hS
 apply wR
 refine qq hS rfl (y_assign hS rfl) fun a hS => ?_
 apply wN
 apply wp_seq
 rcases Decidable.em ((97 : Nat) ≤ c_.toNat) with hs1 | hs1
 ·have hs1e : decide ((97 : Nat) ≤ c_.toNat) = true := decide_eq_true hs1
  replace hg := br_t hg hs1
  apply wp_region_lit
  refine qq hS rfl (y_move hS rfl) fun a hS => ?_
  refine qq hS rfl (yl_b (y_geqN (i := c_.toNat) (j := 97) hS rfl rfl) hs1e) fun a hS => ?_
  refine qq hS rfl (y_move hS rfl) fun a hS => ?_
  refine gy hS rfl (y_move hS rfl) fun a hS => ?_
  refine gy hS rfl (y_leqN (i := c_.toNat) (j := 122) hS rfl rfl) fun a hS => ?_
  refine qq hS rfl (y_pick_t hS rfl rfl) fun a hS => ?_
  refine qq hS rfl (y_assign hS rfl) fun a hS => ?_
  apply wN
  apply wp_ret
  obtain rfl := Option.some.inj hg
  refine fin1 (fn := Try.f92) hS rfl (r_tmp hS rfl) ?_
  exact rfl
 ·have hs1e : decide ((97 : Nat) ≤ c_.toNat) = false := decide_eq_false hs1
  replace hg := br_f hg hs1
  apply wp_region_lit
  refine qq hS rfl (y_move hS rfl) fun a hS => ?_
  refine qq hS rfl (yl_b (y_geqN (i := c_.toNat) (j := 97) hS rfl rfl) hs1e) fun a hS => ?_
  refine qq hS rfl (y_move hS rfl) fun a hS => ?_
  refine gn hS rfl fun a hS => ?_
  refine gn hS rfl fun a hS => ?_
  refine qq hS rfl (y_pick_f hS rfl rfl) fun a hS => ?_
  refine qq hS rfl (y_assign hS rfl) fun a hS => ?_
  apply wN
  apply wp_ret
  obtain rfl := Option.some.inj hg
  refine fin1 (fn := Try.f92) hS rfl (r_tmp hS rfl) ?_
  exact rfl
set_option maxHeartbeats 400000 in
theorem c_r01_part (n : Nat) (M : Bs) (w0 : World) (hM : ∀ b, M b → b < w0.heap.size) (c_ : UInt8) (big_ : Bool) (r : Bool) (hg : r01_part n c_ big_ = some r) :
    Calls Try.prog 84 [.int .u8 (((c_.toNat : Nat) : Int)), .bool (big_)].toArray w0 (Ret noB w0 fun v w => v = .bool (r)) := by
 unfold r01_part at hg
 refine enter M noB Try.func84 rfl rfl hM ?_
 intro a hS
 apply wR
 refine qq hS rfl (y_assign hS rfl) fun a hS => ?_
 apply wN
 apply wp_seq
 obtain ⟨r1, hr1, hg⟩ := bind_some hg
 rcases Bool.eq_false_or_eq_true (r1) with hs4 | hs4
 ·replace hg := br_t hg hs4
  apply wp_region_lit
  refine qq hS rfl (y_move hS rfl) fun a hS => ?_
  refine l_seq rfl (l_call (cap := []) hS rfl Try.func69 rfl (by kernel_rfl) rfl rfl (c_r01_digit n _ _ hS.lt c_ r1 hr1) ?_); clear hS a; intro v5 a w hK hp hS
  clear hK
  obtain rfl := hp.trans (congrArg Value.bool hs4)
  refine qq hS rfl (y_move hS rfl) fun a hS => ?_
  refine gn hS rfl fun a hS => ?_
  refine gn hS rfl fun a hS => ?_
  refine qq hS rfl (y_pick_t hS rfl rfl) fun a hS => ?_
  refine qq hS rfl (y_move hS rfl) fun a hS => ?_
  refine gn hS rfl fun a hS => ?_
  refine gn hS rfl fun a hS => ?_
  refine gn hS rfl fun a hS => ?_
  refine gn hS rfl fun a hS => ?_
  refine gn hS rfl fun a hS => ?_
  refine qq hS rfl (y_pick_t hS rfl rfl) fun a hS => ?_
  refine qq hS rfl (y_move hS rfl) fun a hS => ?_
  refine gn hS rfl fun a hS => ?_
  refine gn hS rfl fun a hS => ?_
  refine gn hS rfl fun a hS => ?_
  refine gn hS rfl fun a hS => ?_
  refine gn hS rfl fun a hS => ?_
  refine gn hS rfl fun a hS => ?_
  refine qq hS rfl (y_pick_t hS rfl rfl) fun a hS => ?_
  refine qq hS rfl (y_assign hS rfl) fun a hS => ?_
  apply wN
  apply wp_ret
  obtain rfl := Option.some.inj hg
  refine fin1 (fn := Try.f84) hS rfl (r_tmp hS rfl) ?_
  exact rfl
 ·replace hg := br_f hg (by rw [hs4]; exact Bool.false_ne_true)
  rcases Decidable.em (c_.toNat = 45) with hs7 | hs7
  ·have hs7e : decide (c_.toNat = 45) = true := decide_eq_true hs7
   replace hg := br_t hg hs7
   apply wp_region_lit
   refine qq hS rfl (y_move hS rfl) fun a hS => ?_
   refine l_seq rfl (l_call (cap := []) hS rfl Try.func69 rfl (by kernel_rfl) rfl rfl (c_r01_digit n _ _ hS.lt c_ r1 hr1) ?_); clear hS a; intro v8 a w hK hp hS
   clear hK
   obtain rfl := hp.trans (congrArg Value.bool hs4)
   refine qq hS rfl (y_move hS rfl) fun a hS => ?_
   refine gy hS rfl (y_move hS rfl) fun a hS => ?_
   refine gy hS rfl (yl_b (y_eqlN (i := c_.toNat) (j := 45) hS rfl rfl) hs7e) fun a hS => ?_
   refine qq hS rfl (y_pick_f hS rfl rfl) fun a hS => ?_
   refine qq hS rfl (y_move hS rfl) fun a hS => ?_
   refine gn hS rfl fun a hS => ?_
   refine gn hS rfl fun a hS => ?_
   refine gn hS rfl fun a hS => ?_
   refine gn hS rfl fun a hS => ?_
   refine gn hS rfl fun a hS => ?_
   refine qq hS rfl (y_pick_t hS rfl rfl) fun a hS => ?_
   refine qq hS rfl (y_move hS rfl) fun a hS => ?_
   refine gn hS rfl fun a hS => ?_
   refine gn hS rfl fun a hS => ?_
   refine gn hS rfl fun a hS => ?_
   refine gn hS rfl fun a hS => ?_
   refine gn hS rfl fun a hS => ?_
   refine gn hS rfl fun a hS => ?_
   refine qq hS rfl (y_pick_t hS rfl rfl) fun a hS => ?_
   refine qq hS rfl (y_assign hS rfl) fun a hS => ?_
   apply wN
   apply wp_ret
   obtain rfl := Option.some.inj hg
   refine fin1 (fn := Try.f84) hS rfl (r_tmp hS rfl) ?_
   exact rfl
  ·have hs7e : decide (c_.toNat = 45) = false := decide_eq_false hs7
   replace hg := br_f hg hs7
   rcases Bool.eq_false_or_eq_true (big_) with hs10 | hs10
   ·replace hg := br_t hg hs10
    obtain ⟨r11, hr11, hg⟩ := bind_some hg
    rcases Bool.eq_false_or_eq_true (r11) with hs14 | hs14
    ·replace hg := br_t hg hs14
     apply wp_region_lit
     refine qq hS rfl (y_move hS rfl) fun a hS => ?_
     refine l_seq rfl (l_call (cap := []) hS rfl Try.func69 rfl (by kernel_rfl) rfl rfl (c_r01_digit n _ _ hS.lt c_ r1 hr1) ?_); clear hS a; intro v15 a w hK hp hS
     clear hK
     obtain rfl := hp.trans (congrArg Value.bool hs4)
     refine qq hS rfl (y_move hS rfl) fun a hS => ?_
     refine gy hS rfl (y_move hS rfl) fun a hS => ?_
     refine gy hS rfl (yl_b (y_eqlN (i := c_.toNat) (j := 45) hS rfl rfl) hs7e) fun a hS => ?_
     refine qq hS rfl (y_pick_f hS rfl rfl) fun a hS => ?_
     refine qq hS rfl (y_move hS rfl) fun a hS => ?_
     refine gy hS rfl (yl_b (y_move hS rfl) hs10) fun a hS => ?_
     refine gy hS rfl (y_move hS rfl) fun a hS => ?_
     refine gy hS rfl (y_move hS rfl) fun a hS => ?_
     refine gl hS rfl (l_call (cap := []) hS rfl Try.func91 rfl (by kernel_rfl) rfl rfl (c_r01_upper n _ _ hS.lt c_ r11 hr11) ?_); clear hS a; intro v17 a w hK hp hS
     clear hK
     obtain rfl := hp.trans (congrArg Value.bool hs14)
     refine gy hS rfl (y_pick_t hS rfl rfl) fun a hS => ?_
     refine qq hS rfl (y_pick_f hS rfl rfl) fun a hS => ?_
     refine qq hS rfl (y_move hS rfl) fun a hS => ?_
     refine gn hS rfl fun a hS => ?_
     refine gn hS rfl fun a hS => ?_
     refine gn hS rfl fun a hS => ?_
     refine gn hS rfl fun a hS => ?_
     refine gn hS rfl fun a hS => ?_
     refine gn hS rfl fun a hS => ?_
     refine qq hS rfl (y_pick_t hS rfl rfl) fun a hS => ?_
     refine qq hS rfl (y_assign hS rfl) fun a hS => ?_
     apply wN
     apply wp_ret
     obtain rfl := Option.some.inj hg
     refine fin1 (fn := Try.f84) hS rfl (r_tmp hS rfl) ?_
     exact rfl
    ·replace hg := br_f hg (by rw [hs14]; exact Bool.false_ne_true)
     apply wp_region_lit
     refine qq hS rfl (y_move hS rfl) fun a hS => ?_
     refine l_seq rfl (l_call (cap := []) hS rfl Try.func69 rfl (by kernel_rfl) rfl rfl (c_r01_digit n _ _ hS.lt c_ r1 hr1) ?_); clear hS a; intro v19 a w hK hp hS
     clear hK
     obtain rfl := hp.trans (congrArg Value.bool hs4)
     refine qq hS rfl (y_move hS rfl) fun a hS => ?_
     refine gy hS rfl (y_move hS rfl) fun a hS => ?_
     refine gy hS rfl (yl_b (y_eqlN (i := c_.toNat) (j := 45) hS rfl rfl) hs7e) fun a hS => ?_
     refine qq hS rfl (y_pick_f hS rfl rfl) fun a hS => ?_
     refine qq hS rfl (y_move hS rfl) fun a hS => ?_
     refine gy hS rfl (yl_b (y_move hS rfl) hs10) fun a hS => ?_
     refine gy hS rfl (y_move hS rfl) fun a hS => ?_
     refine gy hS rfl (y_move hS rfl) fun a hS => ?_
     refine gl hS rfl (l_call (cap := []) hS rfl Try.func91 rfl (by kernel_rfl) rfl rfl (c_r01_upper n _ _ hS.lt c_ r11 hr11) ?_); clear hS a; intro v21 a w hK hp hS
     clear hK
     obtain rfl := hp.trans (congrArg Value.bool hs14)
     refine gy hS rfl (y_pick_t hS rfl rfl) fun a hS => ?_
     refine qq hS rfl (y_pick_f hS rfl rfl) fun a hS => ?_
     refine qq hS rfl (y_move hS rfl) fun a hS => ?_
     refine gy hS rfl (yl_b (y_move hS rfl) hs10) fun a hS => ?_
     refine gy hS rfl (y_not hS rfl) fun a hS => ?_
     refine gy hS rfl (y_move hS rfl) fun a hS => ?_
     refine gn hS rfl fun a hS => ?_
     refine gn hS rfl fun a hS => ?_
     refine gy hS rfl (y_pick_f hS rfl rfl) fun a hS => ?_
     refine qq hS rfl (y_pick_f hS rfl rfl) fun a hS => ?_
     refine qq hS rfl (y_assign hS rfl) fun a hS => ?_
     apply wN
     apply wp_ret
     obtain rfl := Option.some.inj hg
     refine fin1 (fn := Try.f84) hS rfl (r_tmp hS rfl) ?_
     exact rfl
   ·replace hg := br_f hg (by rw [hs10]; exact Bool.false_ne_true)
    obtain ⟨r23, hr23, hg⟩ := bind_some hg
    apply wp_region_lit
    refine qq hS rfl (y_move hS rfl) fun a hS => ?_
    refine l_seq rfl (l_call (cap := []) hS rfl Try.func69 rfl (by kernel_rfl) rfl rfl (c_r01_digit n _ _ hS.lt c_ r1 hr1) ?_); clear hS a; intro v26 a w hK hp hS
    clear hK
    obtain rfl := hp.trans (congrArg Value.bool hs4)
    refine qq hS rfl (y_move hS rfl) fun a hS => ?_
    refine gy hS rfl (y_move hS rfl) fun a hS => ?_
    refine gy hS rfl (yl_b (y_eqlN (i := c_.toNat) (j := 45) hS rfl rfl) hs7e) fun a hS => ?_
    refine qq hS rfl (y_pick_f hS rfl rfl) fun a hS => ?_
    refine qq hS rfl (y_move hS rfl) fun a hS => ?_
    refine gy hS rfl (yl_b (y_move hS rfl) hs10) fun a hS => ?_
    refine gy hS rfl (y_move hS rfl) fun a hS => ?_
    refine gn hS rfl fun a hS => ?_
    refine gn hS rfl fun a hS => ?_
    refine gy hS rfl (y_pick_f hS rfl rfl) fun a hS => ?_
    refine qq hS rfl (y_pick_f hS rfl rfl) fun a hS => ?_
    refine qq hS rfl (y_move hS rfl) fun a hS => ?_
    refine gy hS rfl (yl_b (y_move hS rfl) hs10) fun a hS => ?_
    refine gy hS rfl (y_not hS rfl) fun a hS => ?_
    refine gy hS rfl (y_move hS rfl) fun a hS => ?_
    refine gy hS rfl (y_move hS rfl) fun a hS => ?_
    refine gl hS rfl (l_call (cap := []) hS rfl Try.func92 rfl (by kernel_rfl) rfl rfl (c_r01_lower n _ _ hS.lt c_ r23 hr23) ?_); clear hS a; intro v28 a w hK hp hS
    clear hK
    obtain rfl := hp
    refine gy hS rfl (y_pick_t hS rfl rfl) fun a hS => ?_
    refine qq hS rfl (y_pick_f hS rfl rfl) fun a hS => ?_
    refine qq hS rfl (y_assign hS rfl) fun a hS => ?_
    apply wN
    apply wp_ret
    obtain rfl := Option.some.inj hg
    refine fin1 (fn := Try.f84) hS rfl (r_tmp hS rfl) ?_
    exact rfl
set_option maxHeartbeats 400000 in
theorem c_r01_named (n : Nat) (M : Bs) (w0 : World) (hM : ∀ b, M b → b < w0.heap.size) (s_ : (List UInt8)) (lp01 : (s_).length ≤ 9223372036854775807) (big_ : Bool) (r : Bool) (hg : r01_named n s_ big_ = some r) :
    Calls Try.prog 72 [.string (bs (s_)), .bool (big_)].toArray w0 (Ret noB w0 fun v w => v = .bool (r)) := by
 unfold r01_named at hg
 refine enter M noB Try.func72 rfl rfl hM ?_
 intro a hS
 apply wR
 refine qq hS rfl (y_assign hS rfl) fun a hS => ?_
 apply wN
 apply wp_seq
 apply wp_seq
 obtain ⟨k1, hg, hk1⟩ := jn_some hg
 refine c_post (fun a w => ∃ (t_2 : Bool), k1 t_2 = some r ∧ St (⟨Try.f72.ntmps, M, noB, w0⟩ : Ctx) [(0, .string (bs (s_))), (1, .bool (big_)), (23, .bool (t_2))] [] [] a w) ?_ ?_
 ·rcases Decidable.em (((s_).length) < 1) with hs3 | hs3
  ·have hs3e : decide (((s_).length) < 1) = true := decide_eq_true hs3
   replace hg := br_t hg hs3
   apply wp_region_lit
   refine qq hS rfl (y_move hS rfl) fun a hS => ?_
   refine qq hS rfl (y_lenStrN hS rfl Try.underlying9) fun a hS => ?_
   refine qq hS rfl (yl_b (y_lssN (i := ((s_).length)) (j := 1) hS rfl rfl) hs3e) fun a hS => ?_
   refine qq hS rfl (y_move hS rfl) fun a hS => ?_
   refine gn hS rfl fun a hS => ?_
   refine gn hS rfl fun a hS => ?_
   refine gn hS rfl fun a hS => ?_
   refine qq hS rfl (y_pick_t hS rfl rfl) fun a hS => ?_
   refine qq hS rfl (y_move hS rfl) fun a hS => ?_
   refine gn hS rfl fun a hS => ?_
   refine gn hS rfl fun a hS => ?_
   refine gn hS rfl fun a hS => ?_
   refine qq hS rfl (y_pick_t hS rfl rfl) fun a hS => ?_
   refine qq hS rfl (y_move hS rfl) fun a hS => ?_
   refine gn hS rfl fun a hS => ?_
   refine gn hS rfl fun a hS => ?_
   refine gn hS rfl fun a hS => ?_
   refine qq hS rfl (y_pick_t hS rfl rfl) fun a hS => ?_
   apply wN
   exact ⟨(true), hg, (hS.sb rfl rfl rfl)⟩
  ·have hs3e : decide (((s_).length) < 1) = false := decide_eq_false hs3
   replace hg := br_f hg hs3
   rcases Decidable.em ((32 : Nat) < ((s_).length)) with hs4 | hs4
   ·have hs4e : decide ((32 : Nat) < ((s_).length)) = true := decide_eq_true hs4
    replace hg := br_t hg hs4
    apply wp_region_lit
    refine qq hS rfl (y_move hS rfl) fun a hS => ?_
    refine qq hS rfl (y_lenStrN hS rfl Try.underlying9) fun a hS => ?_
    refine qq hS rfl (yl_b (y_lssN (i := ((s_).length)) (j := 1) hS rfl rfl) hs3e) fun a hS => ?_
    refine qq hS rfl (y_move hS rfl) fun a hS => ?_
    refine gy hS rfl (y_move hS rfl) fun a hS => ?_
    refine gy hS rfl (y_lenStrN hS rfl Try.underlying9) fun a hS => ?_
    refine gy hS rfl (yl_b (y_gtrN (i := ((s_).length)) (j := 32) hS rfl rfl) hs4e) fun a hS => ?_
    refine qq hS rfl (y_pick_f hS rfl rfl) fun a hS => ?_
    refine qq hS rfl (y_move hS rfl) fun a hS => ?_
    refine gn hS rfl fun a hS => ?_
    refine gn hS rfl fun a hS => ?_
    refine gn hS rfl fun a hS => ?_
    refine qq hS rfl (y_pick_t hS rfl rfl) fun a hS => ?_
    refine qq hS rfl (y_move hS rfl) fun a hS => ?_
    refine gn hS rfl fun a hS => ?_
    refine gn hS rfl fun a hS => ?_
    refine gn hS rfl fun a hS => ?_
    refine qq hS rfl (y_pick_t hS rfl rfl) fun a hS => ?_
    apply wN
    exact ⟨(true), hg, (hS.sb rfl rfl rfl)⟩
   ·have hs4e : decide ((32 : Nat) < ((s_).length)) = false := decide_eq_false hs4
    replace hg := br_f hg hs4
    obtain ⟨c5, hc5, hg⟩ := bind_some hg
    obtain ⟨r6, hr6, hg⟩ := bind_some hg
    rcases Bool.eq_false_or_eq_true (r6) with hs9 | hs9
    ·replace hg := br_t hg hs9
     apply wp_region_lit
     refine qq hS rfl (y_move hS rfl) fun a hS => ?_
     refine qq hS rfl (y_lenStrN hS rfl Try.underlying9) fun a hS => ?_
     refine qq hS rfl (yl_b (y_lssN (i := ((s_).length)) (j := 1) hS rfl rfl) hs3e) fun a hS => ?_
     refine qq hS rfl (y_move hS rfl) fun a hS => ?_
     refine gy hS rfl (y_move hS rfl) fun a hS => ?_
     refine gy hS rfl (y_lenStrN hS rfl Try.underlying9) fun a hS => ?_
     refine gy hS rfl (yl_b (y_gtrN (i := ((s_).length)) (j := 32) hS rfl rfl) hs4e) fun a hS => ?_
     refine qq hS rfl (y_pick_f hS rfl rfl) fun a hS => ?_
     refine qq hS rfl (y_move hS rfl) fun a hS => ?_
     refine gy hS rfl (y_move hS rfl) fun a hS => ?_
     refine gy hS rfl (y_indexN (i := 0) hS rfl rfl Try.underlying9 rfl hc5) fun a hS => ?_
     refine gl hS rfl (l_call (cap := []) hS rfl Try.func69 rfl (by kernel_rfl) rfl rfl (c_r01_digit n _ _ hS.lt c5 r6 hr6) ?_); clear hS a; intro v10 a w hK hp hS
     clear hK
     obtain rfl := hp.trans (congrArg Value.bool hs9)
     refine qq hS rfl (y_pick_f hS rfl rfl) fun a hS => ?_
     refine qq hS rfl (y_move hS rfl) fun a hS => ?_
     refine gn hS rfl fun a hS => ?_
     refine gn hS rfl fun a hS => ?_
     refine gn hS rfl fun a hS => ?_
     refine qq hS rfl (y_pick_t hS rfl rfl) fun a hS => ?_
     apply wN
     exact ⟨(true), hg, (hS.sb rfl rfl rfl)⟩
    ·replace hg := br_f hg (by rw [hs9]; exact Bool.false_ne_true)
     apply wp_region_lit
     refine qq hS rfl (y_move hS rfl) fun a hS => ?_
     refine qq hS rfl (y_lenStrN hS rfl Try.underlying9) fun a hS => ?_
     refine qq hS rfl (yl_b (y_lssN (i := ((s_).length)) (j := 1) hS rfl rfl) hs3e) fun a hS => ?_
     refine qq hS rfl (y_move hS rfl) fun a hS => ?_
     refine gy hS rfl (y_move hS rfl) fun a hS => ?_
     refine gy hS rfl (y_lenStrN hS rfl Try.underlying9) fun a hS => ?_
     refine gy hS rfl (yl_b (y_gtrN (i := ((s_).length)) (j := 32) hS rfl rfl) hs4e) fun a hS => ?_
     refine qq hS rfl (y_pick_f hS rfl rfl) fun a hS => ?_
     refine qq hS rfl (y_move hS rfl) fun a hS => ?_
     refine gy hS rfl (y_move hS rfl) fun a hS => ?_
     refine gy hS rfl (y_indexN (i := 0) hS rfl rfl Try.underlying9 rfl hc5) fun a hS => ?_
     refine gl hS rfl (l_call (cap := []) hS rfl Try.func69 rfl (by kernel_rfl) rfl rfl (c_r01_digit n _ _ hS.lt c5 r6 hr6) ?_); clear hS a; intro v12 a w hK hp hS
     clear hK
     obtain rfl := hp.trans (congrArg Value.bool hs9)
     refine qq hS rfl (y_pick_f hS rfl rfl) fun a hS => ?_
     refine qq hS rfl (y_move hS rfl) fun a hS => ?_
     refine gy hS rfl (y_move hS rfl) fun a hS => ?_
     refine gy hS rfl (y_indexN (i := 0) hS rfl rfl Try.underlying9 rfl hc5) fun a hS => ?_
     refine gy hS rfl (y_eqlN (i := c5.toNat) (j := 45) hS rfl rfl) fun a hS => ?_
     refine qq hS rfl (y_pick_f hS rfl rfl) fun a hS => ?_
     apply wN
     exact ⟨(decide (c5.toNat = 45)), hg, (hS.sb rfl rfl rfl)⟩
 clear hS a; rintro a w ⟨t_2, hg, hS⟩
 subst hk1
 refine c_cond hS rfl (fun hc14 => ?_) (fun hc14 => ?_)
 ·replace hg := br_t hg hc14
  apply wR
  refine qq hS rfl (y_assign hS rfl) fun a hS => ?_
  apply wN
  apply wp_ret
  refine p_thenR ?_
  obtain rfl := Option.some.inj hg
  refine fin1 (fn := Try.f72) hS rfl (r_tmp hS rfl) ?_
  exact rfl
 ·replace hg := br_f hg (by rw [hc14]; exact Bool.false_ne_true)
  apply wp_skip
  refine p_norm ?_
  apply wp_seq
  apply wR
  refine qq hS rfl (y_assign hS rfl) fun a hS => ?_
  apply wN
  apply wp_block
  refine c_loop (σ := Nat) (fun m1 a w => ∃ (i_15 : Nat), r01_named_L0 n s_ big_ m1 i_15 = some r ∧ St (⟨Try.f72.ntmps, M, noB, w0⟩ : Ctx) [(0, .string (bs (s_))), (1, .bool (big_)), (5, .int .i64 (((i_15 : Nat) : Int)))] [] [] a w) (fun m1 => m1) n ⟨(0), hg, (hS.sb rfl rfl rfl)⟩ ?_
  clear hS a; rintro m1 a w ⟨i_15, hg, hS⟩
  rcases m1 with _ | m1
  ·rw [r01_named_L0] at hg; cases hg
  rw [r01_named_L0] at hg
  apply wp_seq
  apply wR
  refine qq hS rfl (y_move hS rfl) fun a hS => ?_
  refine qq hS rfl (y_move hS rfl) fun a hS => ?_
  refine qq hS rfl (y_lenStrN hS rfl Try.underlying9) fun a hS => ?_
  refine qq hS rfl (y_lssN (i := i_15) (j := ((s_).length)) hS rfl rfl) fun a hS => ?_
  apply wN
  refine c_dec hS rfl (fun hc16 => ?_) (fun hc16 => ?_)
  ·replace hg := br_t hg hc16
   have hmx17 : (s_).length ≤ 9223372036854775807 := (by first | omega | (rw [List.length_append]; omega) | (simp only [List.length_append]; omega) | (simp only [List.length_append, List.length_take, List.length_drop, List.length_cons, List.length_nil]; omega))
   apply wp_skip
   refine p_norm ?_
   apply wp_seq
   apply wp_block
   apply wp_seq
   obtain ⟨c18, hc18, hg⟩ := bind_some hg
   obtain ⟨r19, hr19, hg⟩ := bind_some hg
   apply wp_region_lit
   refine qq hS rfl (y_move hS rfl) fun a hS => ?_
   refine qq hS rfl (y_move hS rfl) fun a hS => ?_
   refine qq hS rfl (y_indexN (i := i_15) hS rfl rfl Try.underlying9 rfl hc18) fun a hS => ?_
   refine qq hS rfl (y_move hS rfl) fun a hS => ?_
   refine l_seq rfl (l_call (cap := []) hS rfl Try.func84 rfl (by kernel_rfl) rfl rfl (c_r01_part n _ _ hS.lt c18 big_ r19 hr19) ?_); clear hS a; intro v22 a w hK hp hS
   clear hK
   obtain rfl := hp
   refine qq hS rfl (y_not hS rfl) fun a hS => ?_
   apply wN
   refine c_cond hS rfl (fun hc24 => ?_) (fun hc24 => ?_)
   ·replace hg := br_t hg hc24
    apply wR
    refine qq hS rfl (y_assign hS rfl) fun a hS => ?_
    apply wN
    apply wp_ret
    refine p_inR ?_
    refine p_thenR ?_
    refine p_thenR ?_
    refine p_inR ?_
    refine p_thenR ?_
    obtain rfl := Option.some.inj hg
    refine fin1 (fn := Try.f72) hS rfl (r_tmp hS rfl) ?_
    exact rfl
   ·replace hg := br_f hg (by rw [hc24]; exact Bool.false_ne_true)
    apply wp_skip
    refine p_inN ?_
    refine p_norm ?_
    apply wp_region_lit
    refine qq hS rfl (y_move hS rfl) fun a hS => ?_
    refine qq hS rfl (y_addN (i := i_15) (j := 1) hS rfl rfl (in64.2 (by omega))) fun a hS => ?_
    refine qq hS rfl (y_assign hS rfl) fun a hS => ?_
    apply wN
    exact ⟨m1, Nat.lt_succ_self _, ⟨(i_15 + 1), hg, (hS.sb rfl rfl rfl)⟩⟩
  ·replace hg := br_f hg hc16
   apply wp_exit
   refine p_then ?_
   refine p_then ?_
   refine p_in ?_
   refine p_norm ?_
   apply wR
   refine qq hS rfl (y_assign hS rfl) fun a hS => ?_
   apply wN
   apply wp_ret
   obtain rfl := Option.some.inj hg
   refine fin1 (fn := Try.f72) hS rfl (r_tmp hS rfl) ?_
   exact rfl
set_option maxHeartbeats 400000 in
theorem c_r01_Name (n : Nat) (M : Bs) (w0 : World) (hM : ∀ b, M b → b < w0.heap.size) (s_ : (List UInt8)) (lp01 : (s_).length ≤ 9223372036854775807) (r : Bool) (hg : r01_Name n s_ = some r) :
    Calls Try.prog 67 [.string (bs (s_))].toArray w0 (Ret noB w0 fun v w => v = .bool (r)) := by
 unfold r01_Name at hg
 refine enter M noB Try.func67 rfl rfl hM ?_
 intro a hS
 apply wR
 refine qq hS rfl (y_assign hS rfl) fun a hS => ?_
 apply wN
 apply wp_seq
 obtain ⟨r1, hr1, hg⟩ := bind_some hg
 apply wp_region_lit
 refine qq hS rfl (y_move hS rfl) fun a hS => ?_
 refine l_seq rfl (l_call (cap := []) hS rfl Try.func72 rfl (by kernel_rfl) rfl rfl (c_r01_named n _ _ hS.lt s_ (by omega) false r1 hr1) ?_); clear hS a; intro v4 a w hK hp hS
 clear hK
 obtain rfl := hp
 refine qq hS rfl (y_assign hS rfl) fun a hS => ?_
 apply wN
 apply wp_ret
 obtain rfl := Option.some.inj hg
 refine fin1 (fn := Try.f67) hS rfl (r_tmp hS rfl) ?_
 exact rfl
set_option maxHeartbeats 400000 in
theorem c_r01_Feature (n : Nat) (M : Bs) (w0 : World) (hM : ∀ b, M b → b < w0.heap.size) (s_ : (List UInt8)) (lp01 : (s_).length ≤ 9223372036854775807) (r : Bool) (hg : r01_Feature n s_ = some r) :
    Calls Try.prog 68 [.string (bs (s_))].toArray w0 (Ret noB w0 fun v w => v = .bool (r)) := by
 unfold r01_Feature at hg
 refine enter M noB Try.func68 rfl rfl hM ?_
 intro a hS
 apply wR
 refine qq hS rfl (y_assign hS rfl) fun a hS => ?_
 apply wN
 apply wp_seq
 obtain ⟨r1, hr1, hg⟩ := bind_some hg
 apply wp_region_lit
 refine qq hS rfl (y_move hS rfl) fun a hS => ?_
 refine l_seq rfl (l_call (cap := []) hS rfl Try.func72 rfl (by kernel_rfl) rfl rfl (c_r01_named n _ _ hS.lt s_ (by omega) true r1 hr1) ?_); clear hS a; intro v4 a w hK hp hS
 clear hK
 obtain rfl := hp
 refine qq hS rfl (y_assign hS rfl) fun a hS => ?_
 apply wN
 apply wp_ret
 obtain rfl := Option.some.inj hg
 refine fin1 (fn := Try.f68) hS rfl (r_tmp hS rfl) ?_
 exact rfl
set_option maxHeartbeats 400000 in
theorem c_r39_predication (n : Nat) (M : Bs) (w0 : World) (hM : ∀ b, M b → b < w0.heap.size) (e_ : EP) (Ap03 : Option Addr) (cp03 : Nat) (lp01 : (e_.Pred).length ≤ 9223372036854775807) (hp03 : SlR RArg M w0 Ap03 (e_.Args).length cp03 (e_.Args)) (r : Int) (hg : r39_predication n e_ = some r) :
    Calls Try.prog 53 [.agg #[.string (bs (e_.Pred)), .int .i64 (e_.Label), .slice (Ap03) ((e_.Args).length) (cp03)]].toArray w0 (Ret noB w0 fun v w => v = .int .i64 (r)) := by
 unfold r39_predication at hg
 refine enter M noB Try.func53 rfl rfl hM ?_
 intro a hS
 replace hS := hS.es 101 hp03
 apply wR
 refine l_seq rfl (l_box (zs := [.string (bs (e_.Pred)), .int .i64 (e_.Label), .slice (Ap03) ((e_.Args).length) (cp03)]) hS 1000 rfl rfl rfl rfl ?_); clear hS a; intro b2 a w hb hK hS
 clear hb hK
 refine qq hS rfl (y_assign hS rfl) fun a hS => ?_
 apply wN
 apply wp_seq
 apply wp_seq
 obtain ⟨r3, hr3, hg⟩ := bind_some hg
 apply wp_region_lit
 refine qq hS rfl (y_boxField (o' := 0) hS rfl Try.underlying55 rfl rfl rfl) fun a hS => ?_
 refine qq hS rfl (y_loadBox1 (kk := 1000) hS rfl rfl rfl Try.underlying9 rfl) fun a hS => ?_
 refine l_seq rfl (l_call (cap := []) hS rfl Try.func67 rfl (by kernel_rfl) rfl rfl (c_r01_Name n _ _ hS.lt e_.Pred (by omega) r3 hr3) ?_); clear hS a; intro v6 a w hK hp hS
 clear hK
 obtain rfl := hp
 refine qq hS rfl (y_not hS rfl) fun a hS => ?_
 apply wN
 refine c_cond hS rfl (fun hc8 => ?_) (fun hc8 => ?_)
 ·replace hg := br_t hg hc8
  apply wR
  refine qq hS rfl (y_assign hS rfl) fun a hS => ?_
  apply wN
  apply wp_ret
  refine p_thenR ?_
  obtain rfl := Option.some.inj hg
  refine fin1 (fn := Try.f53) hS rfl (r_tmp hS rfl) ?_
  exact rfl
 ·replace hg := br_f hg (by rw [hc8]; exact Bool.false_ne_true)
  apply wp_skip
  refine p_norm ?_
  apply wp_seq
  apply wR
  refine qq hS rfl (y_assign hS rfl) fun a hS => ?_
  apply wN
  apply wp_block
  refine c_loop (σ := Nat) (fun m1 a w => ∃ (i_9 : Nat), r39_predication_L0 n e_ m1 i_9 = some r ∧ St (⟨Try.f53.ntmps, M, noB, w0⟩ : Ctx) [(1, .pointer (some ⟨b2, 0, none⟩)), (3, .int .i64 (((i_9 : Nat) : Int)))] [(1000, Ob.box b2 [.string (bs (e_.Pred)), .int .i64 (e_.Label), .slice (Ap03) ((e_.Args).length) (cp03)] 55)] [(101, slF RArg (Ap03) ((e_.Args).length) (cp03) (e_.Args))] a w) (fun m1 => m1) n ⟨(0), hg, (hS.sb rfl rfl rfl)⟩ ?_
  clear hS a; rintro m1 a w ⟨i_9, hg, hS⟩
  rcases m1 with _ | m1
  ·rw [r39_predication_L0] at hg; cases hg
  rw [r39_predication_L0] at hg
  apply wp_seq
  apply wR
  refine qq hS rfl (y_move hS rfl) fun a hS => ?_
  refine qq hS rfl (y_boxField (o' := 2) hS rfl Try.underlying55 rfl rfl rfl) fun a hS => ?_
  refine qq hS rfl (y_loadBox1 (kk := 1000) hS rfl rfl rfl Try.underlying53 rfl) fun a hS => ?_
  refine qq hS rfl (y_lenSlice hS rfl Try.underlying53) fun a hS => ?_
  refine qq hS rfl (y_lssN (i := i_9) (j := ((e_.Args).length)) hS rfl rfl) fun a hS => ?_
  apply wN
  refine c_dec hS rfl (fun hc10 => ?_) (fun hc10 => ?_)
  ·replace hg := br_t hg hc10
   have hmx11 := SlR.mx (hS.fact (k := 101) rfl)
   apply wp_skip
   refine p_norm ?_
   apply wp_seq
   apply wp_block
   apply wp_seq
   apply wp_seq
   obtain ⟨k12, hg, hk12⟩ := jn_some hg
   refine c_post (fun a w => ∃ (t_13 : Bool), k12 t_13 = some r ∧ St (⟨Try.f53.ntmps, M, noB, w0⟩ : Ctx) [(1, .pointer (some ⟨b2, 0, none⟩)), (3, .int .i64 (((i_9 : Nat) : Int))), (31, .bool (t_13))] [(1000, Ob.box b2 [.string (bs (e_.Pred)), .int .i64 (e_.Label), .slice (Ap03) ((e_.Args).length) (cp03)] 55)] [(101, slF RArg (Ap03) ((e_.Args).length) (cp03) (e_.Args))] a w) ?_ ?_
   ·obtain ⟨x15, hx15, hg⟩ := bind_some hg
    obtain ⟨r17, hr17, hg⟩ := bind_some hg
    rcases Bool.eq_false_or_eq_true (!(r17)) with hs20 | hs20
    ·replace hg := br_t hg hs20
     apply wp_region_lit
     refine qq hS rfl (y_boxField (o' := 2) hS rfl Try.underlying55 rfl rfl rfl) fun a hS => ?_
     refine qq hS rfl (y_loadBox1 (kk := 1000) hS rfl rfl rfl Try.underlying53 rfl) fun a hS => ?_
     refine qq hS rfl (y_move hS rfl) fun a hS => ?_
     obtain ⟨p21, hep21, hpp21⟩ := SlR.elemX (hS.fact (k := 101) rfl) hx15
     refine qq hS rfl (y_elem (sz := 2) (i := i_9) hS rfl rfl Try.underlying53 rfl hep21 rfl (lt_of_get hx15)) fun a hS => ?_
     refine qq hS rfl (y_ptrField (o' := 0) hS rfl Try.underlying76 rfl rfl rfl) fun a hS => ?_
     obtain ⟨hlq22, hmq22, csq22, hdq22, hcq22⟩ := hpp21
     obtain ⟨rfl, lq221⟩ := RArg.open hdq22
     refine qq hS rfl (y_ldp1 hS rfl hlq22 hmq22 (hcq22 0 _ rfl) Try.underlying9 rfl) fun a hS => ?_
     refine l_seq rfl (l_call (cap := []) hS rfl Try.func68 rfl (by kernel_rfl) rfl rfl (c_r01_Feature n _ _ hS.lt x15.Role (by omega) r17 hr17) ?_); clear hS a; intro v23 a w hK hp hS
     clear hK
     obtain rfl := hp
     refine qq hS rfl (yl_b (y_not hS rfl) hs20) fun a hS => ?_
     refine qq hS rfl (y_move hS rfl) fun a hS => ?_
     refine gn hS rfl fun a hS => ?_
     refine gn hS rfl fun a hS => ?_
     refine gn hS rfl fun a hS => ?_
     refine gn hS rfl fun a hS => ?_
     refine gn hS rfl fun a hS => ?_
     refine gn hS rfl fun a hS => ?_
     refine gn hS rfl fun a hS => ?_
     refine qq hS rfl (y_pick_t hS rfl rfl) fun a hS => ?_
     apply wN
     exact ⟨(true), hg, (hS.sb rfl rfl rfl)⟩
    ·replace hg := br_f hg (by rw [hs20]; exact Bool.false_ne_true)
     apply wp_region_lit
     refine qq hS rfl (y_boxField (o' := 2) hS rfl Try.underlying55 rfl rfl rfl) fun a hS => ?_
     refine qq hS rfl (y_loadBox1 (kk := 1000) hS rfl rfl rfl Try.underlying53 rfl) fun a hS => ?_
     refine qq hS rfl (y_move hS rfl) fun a hS => ?_
     obtain ⟨p27, hep27, hpp27⟩ := SlR.elemX (hS.fact (k := 101) rfl) hx15
     refine qq hS rfl (y_elem (sz := 2) (i := i_9) hS rfl rfl Try.underlying53 rfl hep27 rfl (lt_of_get hx15)) fun a hS => ?_
     refine qq hS rfl (y_ptrField (o' := 0) hS rfl Try.underlying76 rfl rfl rfl) fun a hS => ?_
     obtain ⟨hlq28, hmq28, csq28, hdq28, hcq28⟩ := hpp27
     obtain ⟨rfl, lq281⟩ := RArg.open hdq28
     refine qq hS rfl (y_ldp1 hS rfl hlq28 hmq28 (hcq28 0 _ rfl) Try.underlying9 rfl) fun a hS => ?_
     refine l_seq rfl (l_call (cap := []) hS rfl Try.func68 rfl (by kernel_rfl) rfl rfl (c_r01_Feature n _ _ hS.lt x15.Role (by omega) r17 hr17) ?_); clear hS a; intro v29 a w hK hp hS
     clear hK
     obtain rfl := hp
     refine qq hS rfl (yl_b (y_not hS rfl) hs20) fun a hS => ?_
     refine qq hS rfl (y_move hS rfl) fun a hS => ?_
     refine gy hS rfl (y_boxField (o' := 2) hS rfl Try.underlying55 rfl rfl rfl) fun a hS => ?_
     refine gy hS rfl (y_loadBox1 (kk := 1000) hS rfl rfl rfl Try.underlying53 rfl) fun a hS => ?_
     refine gy hS rfl (y_move hS rfl) fun a hS => ?_
     obtain ⟨p31, hep31, hpp31⟩ := SlR.elemX (hS.fact (k := 101) rfl) hx15
     refine gy hS rfl (y_elem (sz := 2) (i := i_9) hS rfl rfl Try.underlying53 rfl hep31 rfl (lt_of_get hx15)) fun a hS => ?_
     refine gy hS rfl (y_ptrField (o' := 0) hS rfl Try.underlying76 rfl rfl rfl) fun a hS => ?_
     obtain ⟨hlq32, hmq32, csq32, hdq32, hcq32⟩ := hpp31
     obtain ⟨rfl, lq321⟩ := RArg.open hdq32
     refine gy hS rfl (y_ldp1 hS rfl hlq32 hmq32 (hcq32 0 _ rfl) Try.underlying9 rfl) fun a hS => ?_
     refine gy hS rfl (y_seq hS rfl rfl) fun a hS => ?_
     refine qq hS rfl (y_pick_f hS rfl rfl) fun a hS => ?_
     apply wN
     exact ⟨(decide ((x15.Role : List UInt8) = [76, 65, 66, 69, 76])), hg, (hS.sb rfl rfl rfl)⟩
   clear hS a; rintro a w ⟨t_13, hg, hS⟩
   subst hk12
   refine c_cond hS rfl (fun hc33 => ?_) (fun hc33 => ?_)
   ·replace hg := br_t hg hc33
    apply wR
    refine qq hS rfl (y_assign hS rfl) fun a hS => ?_
    apply wN
    apply wp_ret
    refine p_thenR ?_
    refine p_inR ?_
    refine p_thenR ?_
    refine p_thenR ?_
    refine p_inR ?_
    refine p_thenR ?_
    obtain rfl := Option.some.inj hg
    refine fin1 (fn := Try.f53) hS rfl (r_tmp hS rfl) ?_
    exact rfl
   ·replace hg := br_f hg (by rw [hc33]; exact Bool.false_ne_true)
    apply wp_skip
    refine p_norm ?_
    apply wp_seq
    obtain ⟨k34, hg, hk34⟩ := jn_some hg
    refine c_post (fun a w => ∃ (t_35 : Bool), k34 t_35 = some r ∧ St (⟨Try.f53.ntmps, M, noB, w0⟩ : Ctx) [(1, .pointer (some ⟨b2, 0, none⟩)), (3, .int .i64 (((i_9 : Nat) : Int))), (49, .bool (t_35))] [(1000, Ob.box b2 [.string (bs (e_.Pred)), .int .i64 (e_.Label), .slice (Ap03) ((e_.Args).length) (cp03)] 55)] [(101, slF RArg (Ap03) ((e_.Args).length) (cp03) (e_.Args))] a w) ?_ ?_
    ·rcases Decidable.em ((0 : Nat) < i_9) with hs36 | hs36
     ·have hs36e : decide ((0 : Nat) < i_9) = true := decide_eq_true hs36
      replace hg := br_t hg hs36
      obtain ⟨x38, hx38, hg⟩ := bind_some hg
      obtain ⟨x41, hx41, hg⟩ := bind_some hg
      refine d_plan hS [] [(0, some 0), (1, some 0), (2, some 0), (3, some 0), (4, some 1000), (5, some 0), (6, some 0), (7, some 0), (8, some 0), (9, some 0), (10, some 1000), (11, some 0), (12, some 0), (13, some 0), (14, some 0), (15, some 0), (16, some 0), (17, some 0)] rfl (by kernel_rfl) (by kernel_rfl) rfl ?_; clear hS; intro wr hZ hS; have hR := hS.wd
      refine q_take hS hR rfl rfl rfl rfl (y_move hS rfl) fun a hS => ?_
      refine q_take hS hR rfl rfl rfl rfl (yl_b (y_gtrN (i := i_9) (j := 0) hS rfl rfl) hs36e) fun a hS => ?_
      refine q_take hS hR rfl rfl rfl rfl (y_move hS rfl) fun a hS => ?_
      refine q_take hS hR rfl rfl ⟨_, _, _, rfl, rfl, rfl, rfl⟩ rfl (y_boxField (o' := 2) hS rfl Try.underlying55 rfl rfl rfl) fun a hS => ?_
      refine q_take hS hR rfl rfl ⟨_, _, _, rfl, rfl, rfl, rfl⟩ rfl (y_loadBox1 (kk := 1000) hS rfl rfl rfl Try.underlying53 rfl) fun a hS => ?_
      refine q_take hS hR rfl rfl ⟨_, _, _, rfl, rfl, rfl, rfl⟩ rfl (y_move hS rfl) fun a hS => ?_
      obtain ⟨p43, hep43, hpp43⟩ := SlR.elemX (hS.fact (k := 101) rfl) hx38
      refine q_take hS hR rfl rfl ⟨_, _, _, rfl, rfl, rfl, rfl⟩ rfl (y_elem (sz := 2) (i := i_9) hS rfl rfl Try.underlying53 rfl hep43 rfl (lt_of_get hx38)) fun a hS => ?_
      refine q_take hS hR rfl rfl ⟨_, _, _, rfl, rfl, rfl, rfl⟩ rfl (y_ptrField (o' := 0) hS rfl Try.underlying76 rfl rfl rfl) fun a hS => ?_
      obtain ⟨hlq44, hmq44, csq44, hdq44, hcq44⟩ := hpp43
      obtain ⟨rfl, lq441⟩ := RArg.open hdq44
      refine q_take hS hR rfl rfl ⟨_, _, _, rfl, rfl, rfl, rfl⟩ rfl (y_ldp1 hS rfl hlq44 hmq44 (hcq44 0 _ rfl) Try.underlying9 rfl) fun a hS => ?_
      refine q_take hS hR rfl rfl ⟨_, _, _, rfl, rfl, rfl, rfl⟩ rfl (y_boxField (o' := 2) hS rfl Try.underlying55 rfl rfl rfl) fun a hS => ?_
      refine q_take hS hR rfl rfl ⟨_, _, _, rfl, rfl, rfl, rfl⟩ rfl (y_loadBox1 (kk := 1000) hS rfl rfl rfl Try.underlying53 rfl) fun a hS => ?_
      refine q_take hS hR rfl rfl ⟨_, _, _, rfl, rfl, rfl, rfl⟩ rfl (y_move hS rfl) fun a hS => ?_
      refine q_take hS hR rfl rfl ⟨_, _, _, rfl, rfl, rfl, rfl⟩ rfl (y_sub hS rfl rfl (in64.2 (by omega))) fun a hS => ?_
      obtain ⟨p45, hep45, hpp45⟩ := SlR.elemX (hS.fact (k := 101) rfl) (ix_some hx41).1
      refine q_take hS hR rfl rfl ⟨_, _, _, rfl, rfl, rfl, rfl⟩ rfl (y_elem (sz := 2) (i := ((((i_9 : Nat) : Int) - 1).toNat)) hS rfl rfl Try.underlying53 rfl hep45 (ix_some hx41).2.1 (lt_of_get (ix_some hx41).1)) fun a hS => ?_
      refine q_take hS hR rfl rfl ⟨_, _, _, rfl, rfl, rfl, rfl⟩ rfl (y_ptrField (o' := 0) hS rfl Try.underlying76 rfl rfl rfl) fun a hS => ?_
      obtain ⟨hlq46, hmq46, csq46, hdq46, hcq46⟩ := hpp45
      obtain ⟨rfl, lq461⟩ := RArg.open hdq46
      refine q_take hS hR rfl rfl ⟨_, _, _, rfl, rfl, rfl, rfl⟩ rfl (y_ldp1 hS rfl hlq46 hmq46 (hcq46 0 _ rfl) Try.underlying9 rfl) fun a hS => ?_
      refine q_take hS hR rfl rfl ⟨_, _, _, rfl, rfl, rfl, rfl⟩ rfl (y_sleq hS rfl rfl) fun a hS => ?_
      refine q_take hS hR rfl rfl rfl rfl (y_pick_t hS rfl rfl) fun a hS => ?_
      clear hR hZ
      refine p_norm ?_
      exact ⟨((Op.bytesLess x38.Role x41.Role) || (x38.Role == x41.Role)), hg, (hS.sb rfl rfl rfl)⟩
     ·have hs36e : decide ((0 : Nat) < i_9) = false := decide_eq_false hs36
      replace hg := br_f hg hs36
      refine d_plan hS [] [(0, some 0), (1, some 0), (2, some 0), (3, some 0), (4, some 0), (5, some 0), (6, some 0), (7, some 0), (8, some 0), (9, some 0), (10, some 0), (11, some 0), (12, some 0), (13, some 0), (14, some 0), (15, some 0), (16, some 0), (17, some 0)] rfl (by kernel_rfl) (by kernel_rfl) rfl ?_; clear hS; intro wr hZ hS; have hR := hS.wd
      refine q_take hS hR rfl rfl rfl rfl (y_move hS rfl) fun a hS => ?_
      refine q_take hS hR rfl rfl rfl rfl (yl_b (y_gtrN (i := i_9) (j := 0) hS rfl rfl) hs36e) fun a hS => ?_
      refine q_take hS hR rfl rfl rfl rfl (y_move hS rfl) fun a hS => ?_
      refine q_pass hS hR rfl rfl ⟨_, _, _, rfl, rfl, rfl, rfl⟩ rfl fun a hS => ?_
      refine q_pass hS hR rfl rfl ⟨_, _, _, rfl, rfl, rfl, rfl⟩ rfl fun a hS => ?_
      refine q_pass hS hR rfl rfl ⟨_, _, _, rfl, rfl, rfl, rfl⟩ rfl fun a hS => ?_
      refine q_pass hS hR rfl rfl ⟨_, _, _, rfl, rfl, rfl, rfl⟩ rfl fun a hS => ?_
      refine q_pass hS hR rfl rfl ⟨_, _, _, rfl, rfl, rfl, rfl⟩ rfl fun a hS => ?_
      refine q_pass hS hR rfl rfl ⟨_, _, _, rfl, rfl, rfl, rfl⟩ rfl fun a hS => ?_
      refine q_pass hS hR rfl rfl ⟨_, _, _, rfl, rfl, rfl, rfl⟩ rfl fun a hS => ?_
      refine q_pass hS hR rfl rfl ⟨_, _, _, rfl, rfl, rfl, rfl⟩ rfl fun a hS => ?_
      refine q_pass hS hR rfl rfl ⟨_, _, _, rfl, rfl, rfl, rfl⟩ rfl fun a hS => ?_
      refine q_pass hS hR rfl rfl ⟨_, _, _, rfl, rfl, rfl, rfl⟩ rfl fun a hS => ?_
      refine q_pass hS hR rfl rfl ⟨_, _, _, rfl, rfl, rfl, rfl⟩ rfl fun a hS => ?_
      refine q_pass hS hR rfl rfl ⟨_, _, _, rfl, rfl, rfl, rfl⟩ rfl fun a hS => ?_
      refine q_pass hS hR rfl rfl ⟨_, _, _, rfl, rfl, rfl, rfl⟩ rfl fun a hS => ?_
      refine q_pass hS hR rfl rfl ⟨_, _, _, rfl, rfl, rfl, rfl⟩ rfl fun a hS => ?_
      refine q_take hS hR rfl rfl rfl rfl (y_pick_f hS rfl rfl) fun a hS => ?_
      clear hR hZ
      refine p_norm ?_
      exact ⟨(false), hg, (hS.sb rfl rfl rfl)⟩
    clear hS a; rintro a w ⟨t_35, hg, hS⟩
    subst hk34
    refine c_cond hS rfl (fun hc47 => ?_) (fun hc47 => ?_)
    ·replace hg := br_t hg hc47
     apply wR
     refine qq hS rfl (y_assign hS rfl) fun a hS => ?_
     apply wN
     apply wp_ret
     refine p_inR ?_
     refine p_thenR ?_
     refine p_thenR ?_
     refine p_inR ?_
     refine p_thenR ?_
     obtain rfl := Option.some.inj hg
     refine fin1 (fn := Try.f53) hS rfl (r_tmp hS rfl) ?_
     exact rfl
    ·replace hg := br_f hg (by rw [hc47]; exact Bool.false_ne_true)
     apply wp_skip
     refine p_inN ?_
     refine p_norm ?_
     apply wp_region_lit
     refine qq hS rfl (y_move hS rfl) fun a hS => ?_
     refine qq hS rfl (y_addN (i := i_9) (j := 1) hS rfl rfl (in64.2 (by omega))) fun a hS => ?_
     refine qq hS rfl (y_assign hS rfl) fun a hS => ?_
     apply wN
     exact ⟨m1, Nat.lt_succ_self _, ⟨(i_9 + 1), hg, (hS.sb rfl rfl rfl)⟩⟩
  ·replace hg := br_f hg hc10
   apply wp_exit
   refine p_then ?_
   refine p_then ?_
   refine p_in ?_
   refine p_norm ?_
   apply wR
   refine qq hS rfl (y_assign hS rfl) fun a hS => ?_
   apply wN
   apply wp_ret
   obtain rfl := Option.some.inj hg
   refine fin1 (fn := Try.f53) hS rfl (r_tmp hS rfl) ?_
   exact rfl
set_option maxHeartbeats 400000 in
theorem c_r39_Occurrences (n : Nat) (M : Bs) (w0 : World) (hM : ∀ b, M b → b < w0.heap.size) (t_ : MRS) (Ap03 : Option Addr) (cp03 : Nat) (Ap04 : Option Addr) (cp04 : Nat) (Ap05 : Option Addr) (cp05 : Nat) (hp03 : SlR Rep.str M w0 Ap03 (t_.Vars).length cp03 (t_.Vars)) (hp04 : SlR REP M w0 Ap04 (t_.Rels).length cp04 (t_.Rels)) (hp05 : SlR RQeq M w0 Ap05 (t_.Cons).length cp05 (t_.Cons)) (r : (List Int)) (hg : r39_Occurrences n t_ = some r) :
    Calls Try.prog 54 [.agg #[.int .i64 (t_.Top), .int .i64 (t_.Index), .slice (Ap03) ((t_.Vars).length) (cp03), .slice (Ap04) ((t_.Rels).length) (cp04), .slice (Ap05) ((t_.Cons).length) (cp05)]].toArray w0 (Ret noB w0 fun v w => ∃ (Aa1 : Option Addr), ∃ (ca1 : Nat), v = .slice (Aa1) ((r).length) (ca1) ∧ (SlR (Rep.num .i64) M w Aa1 (r).length ca1 (r))) := by
 unfold r39_Occurrences at hg
 refine enter M noB Try.func54 rfl rfl hM ?_
 intro a hS
 replace hS := hS.es 101 hp03
 replace hS := hS.es 102 hp04
 replace hS := hS.es 103 hp05
 apply wR
 refine l_seq rfl (l_box (zs := [.int .i64 (t_.Top), .int .i64 (t_.Index), .slice (Ap03) ((t_.Vars).length) (cp03), .slice (Ap04) ((t_.Rels).length) (cp04), .slice (Ap05) ((t_.Cons).length) (cp05)]) hS 1000 rfl rfl rfl rfl ?_); clear hS a; intro b2 a w hb hK hS
 clear hb hK
 refine qq hS rfl (y_assign hS rfl) fun a hS => ?_
 apply wN
 apply wR
 refine qq hS rfl (y_boxField (o' := 0) hS rfl Try.underlying26 rfl rfl rfl) fun a hS => ?_
 refine qq hS rfl (y_loadBox1 (kk := 1000) hS rfl rfl rfl Try.underlying3 rfl) fun a hS => ?_
 refine qq hS rfl (y_boxField (o' := 1) hS rfl Try.underlying26 rfl rfl rfl) fun a hS => ?_
 refine qq hS rfl (y_loadBox1 (kk := 1000) hS rfl rfl rfl Try.underlying3 rfl) fun a hS => ?_
 refine l_seq rfl (l_buildDense (sz := 1) hS 1104 rfl rfl rfl Try.underlying33 rfl rfl rfl rfl rfl rfl rfl ?_); clear hS a; intro b4 a w hbb4 hK hS
 clear hbb4 hK
 refine qq hS rfl (y_assign hS rfl) fun a hS => ?_
 apply wN
 apply wp_seq
 apply wR
 refine qq hS rfl (y_assign hS rfl) fun a hS => ?_
 apply wN
 obtain ⟨k5, hg, hk5⟩ := jn_some hg
 refine c_post (fun a w => ∃ (t_6 : (List Int)), ∃ (A7 : Option Addr), ∃ (c8 : Nat), ∃ (cs9 : List Value), k5 t_6 = some r ∧ St (⟨Try.f54.ntmps, M, noB, w0⟩ : Ctx) [(1, .pointer (some ⟨b2, 0, none⟩)), (3, .slice (A7) ((t_6).length) (c8))] [(1000, Ob.box b2 [.int .i64 (t_.Top), .int .i64 (t_.Index), .slice (Ap03) ((t_.Vars).length) (cp03), .slice (Ap04) ((t_.Rels).length) (cp04), .slice (Ap05) ((t_.Cons).length) (cp05)] 26), (700104, Ob.row (A7) ((t_6).length) (c8) 3 1 (cs9))] [(101, slF Rep.str (Ap03) ((t_.Vars).length) (cp03) (t_.Vars)), (102, slF REP (Ap04) ((t_.Rels).length) (cp04) (t_.Rels)), (103, slF RQeq (Ap05) ((t_.Cons).length) (cp05) (t_.Cons)), (105, rdF (Rep.num .i64) (cs9) (t_6))] a w) ?_ ?_
 ·apply wp_block
  replace hS := hS.add 108 (rdF (Rep.num .i64) (cellsOfL [.int .i64 (t_.Top), .int .i64 (t_.Index)]) ([t_.Top, t_.Index])) (RdAll.cons (by exact rfl) (RdAll.cons (by exact rfl) (RdAll.nil _ _ _)))
  replace hS := hS.al 107 108 rfl
  replace hS := hS.pk [(1000, 1000), (700106, 1104)] (by decide)
  refine c_loop (σ := Nat) (fun m1 a w => ∃ (t_10 : (List Int)), ∃ (t_14 : Nat), ∃ (A11 : Option Addr), ∃ (c12 : Nat), ∃ (cs13 : List Value), r39_Occurrences_L0 n t_ k5 m1 t_10 t_14 = some r ∧ St (⟨Try.f54.ntmps, M, noB, w0⟩ : Ctx) [(1, .pointer (some ⟨b2, 0, none⟩)), (3, .slice (A11) ((t_10).length) (c12)), (4, .int .i64 (((t_14 : Nat) : Int)))] [(1000, Ob.box b2 [.int .i64 (t_.Top), .int .i64 (t_.Index), .slice (Ap03) ((t_.Vars).length) (cp03), .slice (Ap04) ((t_.Rels).length) (cp04), .slice (Ap05) ((t_.Cons).length) (cp05)] 26), (700106, Ob.row (A11) ((t_10).length) (c12) 3 1 (cs13))] [(101, slF Rep.str (Ap03) ((t_.Vars).length) (cp03) (t_.Vars)), (102, slF REP (Ap04) ((t_.Rels).length) (cp04) (t_.Rels)), (103, slF RQeq (Ap05) ((t_.Cons).length) (cp05) (t_.Cons)), (107, rdF (Rep.num .i64) (cs13) (t_10))] a w) (fun m1 => m1) n ⟨([t_.Top, t_.Index]), (0), (some ⟨b4, 0, none⟩), (2), (cellsOfL [.int .i64 (t_.Top), .int .i64 (t_.Index)]), hg, (hS.sb rfl rfl rfl)⟩ ?_
  clear hS a; rintro m1 a w ⟨t_10, t_14, A11, c12, cs13, hg, hS⟩
  rcases m1 with _ | m1
  ·rw [r39_Occurrences_L0] at hg; cases hg
  rw [r39_Occurrences_L0] at hg
  apply wp_seq
  apply wR
  refine qq hS rfl (y_move hS rfl) fun a hS => ?_
  refine qq hS rfl (y_boxField (o' := 3) hS rfl Try.underlying26 rfl rfl rfl) fun a hS => ?_
  refine qq hS rfl (y_loadBox1 (kk := 1000) hS rfl rfl rfl Try.underlying23 rfl) fun a hS => ?_
  refine qq hS rfl (y_lenSlice hS rfl Try.underlying23) fun a hS => ?_
  refine qq hS rfl (y_lssN (i := t_14) (j := ((t_.Rels).length)) hS rfl rfl) fun a hS => ?_
  apply wN
  refine c_dec hS rfl (fun hc15 => ?_) (fun hc15 => ?_)
  ·replace hg := br_t hg hc15
   have hmx16 := SlR.mx (hS.fact (k := 102) rfl)
   apply wp_skip
   refine p_norm ?_
   apply wp_seq
   obtain ⟨k17, hg, hk17⟩ := jn_some hg
   refine c_post (fun a w => ∃ (t_18 : (List Int)), ∃ (A19 : Option Addr), ∃ (c20 : Nat), ∃ (cs21 : List Value), k17 t_18 = some r ∧ St (⟨Try.f54.ntmps, M, noB, w0⟩ : Ctx) [(1, .pointer (some ⟨b2, 0, none⟩)), (3, .slice (A19) ((t_18).length) (c20)), (4, .int .i64 (((t_14 : Nat) : Int)))] [(1000, Ob.box b2 [.int .i64 (t_.Top), .int .i64 (t_.Index), .slice (Ap03) ((t_.Vars).length) (cp03), .slice (Ap04) ((t_.Rels).length) (cp04), .slice (Ap05) ((t_.Cons).length) (cp05)] 26), (700109, Ob.row (A19) ((t_18).length) (c20) 3 1 (cs21))] [(101, slF Rep.str (Ap03) ((t_.Vars).length) (cp03) (t_.Vars)), (102, slF REP (Ap04) ((t_.Rels).length) (cp04) (t_.Rels)), (103, slF RQeq (Ap05) ((t_.Cons).length) (cp05) (t_.Cons)), (110, rdF (Rep.num .i64) (cs21) (t_18))] a w) ?_ ?_
   ·apply wp_block
    apply wp_seq
    obtain ⟨x23, hx23, hg⟩ := bind_some hg
    obtain ⟨hk26, hg⟩ := chk_some hg
    apply wp_region_lit
    refine qq hS rfl (y_move hS rfl) fun a hS => ?_
    refine qq hS rfl (y_boxField (o' := 3) hS rfl Try.underlying26 rfl rfl rfl) fun a hS => ?_
    refine qq hS rfl (y_loadBox1 (kk := 1000) hS rfl rfl rfl Try.underlying23 rfl) fun a hS => ?_
    refine qq hS rfl (y_move hS rfl) fun a hS => ?_
    obtain ⟨p29, hep29, hpp29⟩ := SlR.elemX (hS.fact (k := 102) rfl) hx23
    refine qq hS rfl (y_elem (sz := 3) (i := t_14) hS rfl rfl Try.underlying23 rfl hep29 rfl (lt_of_get hx23)) fun a hS => ?_
    refine qq hS rfl (y_ptrField (o' := 1) hS rfl Try.underlying55 rfl rfl rfl) fun a hS => ?_
    obtain ⟨hlq30, hmq30, csq30, hdq30, hcq30⟩ := hpp29
    obtain ⟨Aq303, cq303, rfl, lq301, hq303⟩ := REP.open hdq30
    replace hS := hS.add 114 (slF RArg (Aq303) ((x23.Args).length) (cq303) (x23.Args)) hq303
    refine qq hS rfl (y_ldp1 hS rfl hlq30 hmq30 (hcq30 1 _ rfl) Try.underlying3 rfl) fun a hS => ?_
    refine l_seq rfl (l_buildDense (sz := 1) hS 1507 rfl rfl rfl Try.underlying33 rfl rfl rfl rfl rfl rfl rfl ?_); clear hS a; intro b31 a w hbb31 hK hS
    clear hbb31 hK
    replace hS := hS.add 115 (rdF (Rep.num .i64) (cellsOfL [.int .i64 (x23.Label)]) ([x23.Label])) (RdAll.cons (by exact rfl) (RdAll.nil _ _ _))
    have hs33 := row_src (hS.wd.holds 1507 _ rfl) (RdAll.one (hS.fact (k := 115) rfl))
    refine l_seq rfl (l_append (sz := 1) (by_ := 8) (N := (t_10 ++ [x23.Label]).length) (ys := cs13 ++ (cellsOfL [.int .i64 (x23.Label)])) hS 700106 rfl rfl rfl Try.underlying33 rfl rfl rfl rfl rfl hs33 (by simp) rfl (by have hr := hk26; clear hg; first | omega | (simp only [List.length_append, List.length_cons, List.length_nil] at hr ⊢; omega) | (simp at hr ⊢; omega)) (by have hr := hk26; clear hg; first | omega | (simp only [List.length_append, List.length_cons, List.length_nil] at hr ⊢; omega) | (simp at hr ⊢; omega)) rfl ?_); clear hS a; intro Aq32 cq32 a w hA hK hS
    clear hK hA
    replace hS := hS.add 116 (rdF (Rep.num .i64) (cs13 ++ (cellsOfL [.int .i64 (x23.Label)])) (t_10 ++ [x23.Label])) (RdAll.append (hS.fact (k := 107) rfl) (hS.fact (k := 115) rfl))
    refine qq hS rfl (y_assign hS rfl) fun a hS => ?_
    apply wN
    apply wR
    refine qq hS rfl (y_assign hS rfl) fun a hS => ?_
    apply wN
    apply wp_block
    replace hS := hS.al 118 116 rfl
    replace hS := hS.pk [(1000, 1000), (1507, 1507), (700117, 700106)] (by decide)
    refine c_loop (σ := Nat) (fun m2 a w => ∃ (t_34 : (List Int)), ∃ (t_38 : Nat), ∃ (A35 : Option Addr), ∃ (c36 : Nat), ∃ (cs37 : List Value), r39_Occurrences_L1 n k17 x23 m2 t_34 t_38 = some r ∧ St (⟨Try.f54.ntmps, M, noB, w0⟩ : Ctx) [(1, .pointer (some ⟨b2, 0, none⟩)), (3, .slice (A35) ((t_34).length) (c36)), (4, .int .i64 (((t_14 : Nat) : Int))), (5, .int .i64 (((t_38 : Nat) : Int)))] [(1000, Ob.box b2 [.int .i64 (t_.Top), .int .i64 (t_.Index), .slice (Ap03) ((t_.Vars).length) (cp03), .slice (Ap04) ((t_.Rels).length) (cp04), .slice (Ap05) ((t_.Cons).length) (cp05)] 26), (700117, Ob.row (A35) ((t_34).length) (c36) 3 1 (cs37))] [(101, slF Rep.str (Ap03) ((t_.Vars).length) (cp03) (t_.Vars)), (102, slF REP (Ap04) ((t_.Rels).length) (cp04) (t_.Rels)), (103, slF RQeq (Ap05) ((t_.Cons).length) (cp05) (t_.Cons)), (118, rdF (Rep.num .i64) (cs37) (t_34))] a w) (fun m2 => m2) n ⟨(t_10 ++ [x23.Label]), (0), (Aq32), (cq32), (cs13 ++ (cellsOfL [.int .i64 (x23.Label)])), hg, (hS.sb rfl rfl rfl)⟩ ?_
    clear hS a; rintro m2 a w ⟨t_34, t_38, A35, c36, cs37, hg, hS⟩
    rcases m2 with _ | m2
    ·rw [r39_Occurrences_L1] at hg; cases hg
    rw [r39_Occurrences_L1] at hg
    apply wp_seq
    apply wR
    refine qq hS rfl (y_move hS rfl) fun a hS => ?_
    refine qq hS rfl (y_boxField (o' := 3) hS rfl Try.underlying26 rfl rfl rfl) fun a hS => ?_
    refine qq hS rfl (y_loadBox1 (kk := 1000) hS rfl rfl rfl Try.underlying23 rfl) fun a hS => ?_
    refine qq hS rfl (y_move hS rfl) fun a hS => ?_
    obtain ⟨p41, hep41, hpp41⟩ := SlR.elemX (hS.fact (k := 102) rfl) hx23
    refine qq hS rfl (y_elem (sz := 3) (i := t_14) hS rfl rfl Try.underlying23 rfl hep41 rfl (lt_of_get hx23)) fun a hS => ?_
    refine qq hS rfl (y_ptrField (o' := 2) hS rfl Try.underlying55 rfl rfl rfl) fun a hS => ?_
    obtain ⟨hlq42, hmq42, csq42, hdq42, hcq42⟩ := hpp41
    obtain ⟨Aq423, cq423, rfl, lq421, hq423⟩ := REP.open hdq42
    replace hS := hS.add 120 (slF RArg (Aq423) ((x23.Args).length) (cq423) (x23.Args)) hq423
    refine qq hS rfl (y_ldp1 hS rfl hlq42 hmq42 (hcq42 2 _ rfl) Try.underlying53 rfl) fun a hS => ?_
    refine qq hS rfl (y_lenSlice hS rfl Try.underlying53) fun a hS => ?_
    refine qq hS rfl (y_lssN (i := t_38) (j := ((x23.Args).length)) hS rfl rfl) fun a hS => ?_
    apply wN
    refine c_dec hS rfl (fun hc43 => ?_) (fun hc43 => ?_)
    ·replace hg := br_t hg hc43
     have hmx44 := SlR.mx (hS.fact (k := 120) rfl)
     apply wp_skip
     refine p_norm ?_
     apply wp_seq
     apply wp_block
     obtain ⟨x48, hx48, hg⟩ := bind_some hg
     obtain ⟨hk51, hg⟩ := chk_some hg
     apply wp_region_lit
     refine qq hS rfl (y_move hS rfl) fun a hS => ?_
     refine qq hS rfl (y_boxField (o' := 3) hS rfl Try.underlying26 rfl rfl rfl) fun a hS => ?_
     refine qq hS rfl (y_loadBox1 (kk := 1000) hS rfl rfl rfl Try.underlying23 rfl) fun a hS => ?_
     refine qq hS rfl (y_move hS rfl) fun a hS => ?_
     obtain ⟨p54, hep54, hpp54⟩ := SlR.elemX (hS.fact (k := 102) rfl) hx23
     refine qq hS rfl (y_elem (sz := 3) (i := t_14) hS rfl rfl Try.underlying23 rfl hep54 rfl (lt_of_get hx23)) fun a hS => ?_
     refine qq hS rfl (y_ptrField (o' := 2) hS rfl Try.underlying55 rfl rfl rfl) fun a hS => ?_
     obtain ⟨hlq55, hmq55, csq55, hdq55, hcq55⟩ := hpp54
     obtain ⟨Aq553, cq553, rfl, lq551, hq553⟩ := REP.open hdq55
     replace hS := hS.add 124 (slF RArg (Aq553) ((x23.Args).length) (cq553) (x23.Args)) hq553
     refine qq hS rfl (y_ldp1 hS rfl hlq55 hmq55 (hcq55 2 _ rfl) Try.underlying53 rfl) fun a hS => ?_
     refine qq hS rfl (y_move hS rfl) fun a hS => ?_
     obtain ⟨p56, hep56, hpp56⟩ := SlR.elemX (hS.fact (k := 124) rfl) hx48
     refine qq hS rfl (y_elem (sz := 2) (i := t_38) hS rfl rfl Try.underlying53 rfl hep56 rfl (lt_of_get hx48)) fun a hS => ?_
     refine qq hS rfl (y_ptrField (o' := 1) hS rfl Try.underlying76 rfl rfl rfl) fun a hS => ?_
     obtain ⟨hlq57, hmq57, csq57, hdq57, hcq57⟩ := hpp56
     obtain ⟨rfl, lq571⟩ := RArg.open hdq57
     refine qq hS rfl (y_ldp1 hS rfl hlq57 hmq57 (hcq57 1 _ rfl) Try.underlying3 rfl) fun a hS => ?_
     refine l_seq rfl (l_buildDense (sz := 1) hS 1911 rfl rfl rfl Try.underlying33 rfl rfl rfl rfl rfl rfl rfl ?_); clear hS a; intro b58 a w hbb58 hK hS
     clear hbb58 hK
     replace hS := hS.add 125 (rdF (Rep.num .i64) (cellsOfL [.int .i64 (x48.Var)]) ([x48.Var])) (RdAll.cons (by exact rfl) (RdAll.nil _ _ _))
     have hs60 := row_src (hS.wd.holds 1911 _ rfl) (RdAll.one (hS.fact (k := 125) rfl))
     refine l_seq rfl (l_append (sz := 1) (by_ := 8) (N := (t_34 ++ [x48.Var]).length) (ys := cs37 ++ (cellsOfL [.int .i64 (x48.Var)])) hS 700117 rfl rfl rfl Try.underlying33 rfl rfl rfl rfl rfl hs60 (by simp) rfl (by have hr := hk51; clear hg; first | omega | (simp only [List.length_append, List.length_cons, List.length_nil] at hr ⊢; omega) | (simp at hr ⊢; omega)) (by have hr := hk51; clear hg; first | omega | (simp only [List.length_append, List.length_cons, List.length_nil] at hr ⊢; omega) | (simp at hr ⊢; omega)) rfl ?_); clear hS a; intro Aq59 cq59 a w hA hK hS
     clear hK hA
     replace hS := hS.add 126 (rdF (Rep.num .i64) (cs37 ++ (cellsOfL [.int .i64 (x48.Var)])) (t_34 ++ [x48.Var])) (RdAll.append (hS.fact (k := 118) rfl) (hS.fact (k := 125) rfl))
     refine qq hS rfl (y_assign hS rfl) fun a hS => ?_
     apply wpList_nil
     refine p_inN ?_
     refine p_norm ?_
     apply wp_region_lit
     refine qq hS rfl (y_move hS rfl) fun a hS => ?_
     refine qq hS rfl (y_addN (i := t_38) (j := 1) hS rfl rfl (in64.2 (by omega))) fun a hS => ?_
     refine qq hS rfl (y_assign hS rfl) fun a hS => ?_
     apply wN
     replace hS := hS.al 118 126 rfl
     exact ⟨m2, Nat.lt_succ_self _, ⟨(t_34 ++ [x48.Var]), (t_38 + 1), (Aq59), (cq59), (cs37 ++ (cellsOfL [.int .i64 (x48.Var)])), hg, (hS.sb rfl rfl rfl)⟩⟩
    ·replace hg := br_f hg hc43
     apply wp_exit
     refine p_then ?_
     refine p_then ?_
     refine p_in ?_
     refine p_inN ?_
     refine p_norm ?_
     replace hS := hS.al 110 118 rfl
     replace hS := hS.pk [(1000, 1000), (700109, 700117)] (by decide)
     exact ⟨(t_34), (A35), (c36), (cs37), hg, (hS.sb rfl rfl rfl)⟩
   clear hS a; rintro a w ⟨t_18, A19, c20, cs21, hg, hS⟩
   subst hk17
   apply wp_region_lit
   refine qq hS rfl (y_move hS rfl) fun a hS => ?_
   refine qq hS rfl (y_addN (i := t_14) (j := 1) hS rfl rfl (in64.2 (by omega))) fun a hS => ?_
   refine qq hS rfl (y_assign hS rfl) fun a hS => ?_
   apply wN
   replace hS := hS.al 107 110 rfl
   replace hS := hS.pk [(1000, 1000), (700106, 700109)] (by decide)
   exact ⟨m1, Nat.lt_succ_self _, ⟨(t_18), (t_14 + 1), (A19), (c20), (cs21), hg, (hS.sb rfl rfl rfl)⟩⟩
  ·replace hg := br_f hg hc15
   apply wp_exit
   refine p_then ?_
   refine p_then ?_
   refine p_in ?_
   refine p_norm ?_
   replace hS := hS.al 105 107 rfl
   replace hS := hS.pk [(1000, 1000), (700104, 700106)] (by decide)
   exact ⟨(t_10), (A11), (c12), (cs13), hg, (hS.sb rfl rfl rfl)⟩
 clear hS a; rintro a w ⟨t_6, A7, c8, cs9, hg, hS⟩
 subst hk5
 apply wp_seq
 apply wR
 refine qq hS rfl (y_assign hS rfl) fun a hS => ?_
 apply wN
 apply wp_block
 replace hS := hS.al 128 105 rfl
 replace hS := hS.pk [(1000, 1000), (700127, 700104)] (by decide)
 refine c_loop (σ := Nat) (fun m3 a w => ∃ (t_61 : (List Int)), ∃ (t_65 : Nat), ∃ (A62 : Option Addr), ∃ (c63 : Nat), ∃ (cs64 : List Value), r39_Occurrences_L2 n t_ m3 t_61 t_65 = some r ∧ St (⟨Try.f54.ntmps, M, noB, w0⟩ : Ctx) [(1, .pointer (some ⟨b2, 0, none⟩)), (3, .slice (A62) ((t_61).length) (c63)), (6, .int .i64 (((t_65 : Nat) : Int)))] [(1000, Ob.box b2 [.int .i64 (t_.Top), .int .i64 (t_.Index), .slice (Ap03) ((t_.Vars).length) (cp03), .slice (Ap04) ((t_.Rels).length) (cp04), .slice (Ap05) ((t_.Cons).length) (cp05)] 26), (700127, Ob.row (A62) ((t_61).length) (c63) 3 1 (cs64))] [(101, slF Rep.str (Ap03) ((t_.Vars).length) (cp03) (t_.Vars)), (102, slF REP (Ap04) ((t_.Rels).length) (cp04) (t_.Rels)), (103, slF RQeq (Ap05) ((t_.Cons).length) (cp05) (t_.Cons)), (128, rdF (Rep.num .i64) (cs64) (t_61))] a w) (fun m3 => m3) n ⟨(t_6), (0), (A7), (c8), (cs9), hg, (hS.sb rfl rfl rfl)⟩ ?_
 clear hS a; rintro m3 a w ⟨t_61, t_65, A62, c63, cs64, hg, hS⟩
 rcases m3 with _ | m3
 ·rw [r39_Occurrences_L2] at hg; cases hg
 rw [r39_Occurrences_L2] at hg
 apply wp_seq
 apply wR
 refine qq hS rfl (y_move hS rfl) fun a hS => ?_
 refine qq hS rfl (y_boxField (o' := 4) hS rfl Try.underlying26 rfl rfl rfl) fun a hS => ?_
 refine qq hS rfl (y_loadBox1 (kk := 1000) hS rfl rfl rfl Try.underlying24 rfl) fun a hS => ?_
 refine qq hS rfl (y_lenSlice hS rfl Try.underlying24) fun a hS => ?_
 refine qq hS rfl (y_lssN (i := t_65) (j := ((t_.Cons).length)) hS rfl rfl) fun a hS => ?_
 apply wN
 refine c_dec hS rfl (fun hc66 => ?_) (fun hc66 => ?_)
 ·replace hg := br_t hg hc66
  have hmx67 := SlR.mx (hS.fact (k := 103) rfl)
  apply wp_skip
  refine p_norm ?_
  apply wp_seq
  apply wp_block
  apply wp_seq
  obtain ⟨x69, hx69, hg⟩ := bind_some hg
  obtain ⟨hk72, hg⟩ := chk_some hg
  apply wp_region_lit
  refine qq hS rfl (y_move hS rfl) fun a hS => ?_
  refine qq hS rfl (y_boxField (o' := 4) hS rfl Try.underlying26 rfl rfl rfl) fun a hS => ?_
  refine qq hS rfl (y_loadBox1 (kk := 1000) hS rfl rfl rfl Try.underlying24 rfl) fun a hS => ?_
  refine qq hS rfl (y_move hS rfl) fun a hS => ?_
  obtain ⟨p75, hep75, hpp75⟩ := SlR.elemX (hS.fact (k := 103) rfl) hx69
  refine qq hS rfl (y_elem (sz := 2) (i := t_65) hS rfl rfl Try.underlying24 rfl hep75 rfl (lt_of_get hx69)) fun a hS => ?_
  refine qq hS rfl (y_ptrField (o' := 0) hS rfl Try.underlying45 rfl rfl rfl) fun a hS => ?_
  obtain ⟨hlq76, hmq76, csq76, hdq76, hcq76⟩ := hpp75
  obtain rfl := RQeq.open hdq76
  refine qq hS rfl (y_ldp1 hS rfl hlq76 hmq76 (hcq76 0 _ rfl) Try.underlying3 rfl) fun a hS => ?_
  refine l_seq rfl (l_buildDense (sz := 1) hS 2307 rfl rfl rfl Try.underlying33 rfl rfl rfl rfl rfl rfl rfl ?_); clear hS a; intro b77 a w hbb77 hK hS
  clear hbb77 hK
  replace hS := hS.add 131 (rdF (Rep.num .i64) (cellsOfL [.int .i64 (x69.High)]) ([x69.High])) (RdAll.cons (by exact rfl) (RdAll.nil _ _ _))
  have hs79 := row_src (hS.wd.holds 2307 _ rfl) (RdAll.one (hS.fact (k := 131) rfl))
  refine l_seq rfl (l_append (sz := 1) (by_ := 8) (N := (t_61 ++ [x69.High]).length) (ys := cs64 ++ (cellsOfL [.int .i64 (x69.High)])) hS 700127 rfl rfl rfl Try.underlying33 rfl rfl rfl rfl rfl hs79 (by simp) rfl (by have hr := hk72; clear hg; first | omega | (simp only [List.length_append, List.length_cons, List.length_nil] at hr ⊢; omega) | (simp at hr ⊢; omega)) (by have hr := hk72; clear hg; first | omega | (simp only [List.length_append, List.length_cons, List.length_nil] at hr ⊢; omega) | (simp at hr ⊢; omega)) rfl ?_); clear hS a; intro Aq78 cq78 a w hA hK hS
  clear hK hA
  replace hS := hS.add 132 (rdF (Rep.num .i64) (cs64 ++ (cellsOfL [.int .i64 (x69.High)])) (t_61 ++ [x69.High])) (RdAll.append (hS.fact (k := 128) rfl) (hS.fact (k := 131) rfl))
  refine qq hS rfl (y_assign hS rfl) fun a hS => ?_
  apply wN
  obtain ⟨hk83, hg⟩ := chk_some hg
  apply wp_region_lit
  refine qq hS rfl (y_move hS rfl) fun a hS => ?_
  refine qq hS rfl (y_boxField (o' := 4) hS rfl Try.underlying26 rfl rfl rfl) fun a hS => ?_
  refine qq hS rfl (y_loadBox1 (kk := 1000) hS rfl rfl rfl Try.underlying24 rfl) fun a hS => ?_
  refine qq hS rfl (y_move hS rfl) fun a hS => ?_
  obtain ⟨p86, hep86, hpp86⟩ := SlR.elemX (hS.fact (k := 103) rfl) hx69
  refine qq hS rfl (y_elem (sz := 2) (i := t_65) hS rfl rfl Try.underlying24 rfl hep86 rfl (lt_of_get hx69)) fun a hS => ?_
  refine qq hS rfl (y_ptrField (o' := 1) hS rfl Try.underlying45 rfl rfl rfl) fun a hS => ?_
  obtain ⟨hlq87, hmq87, csq87, hdq87, hcq87⟩ := hpp86
  obtain rfl := RQeq.open hdq87
  refine qq hS rfl (y_ldp1 hS rfl hlq87 hmq87 (hcq87 1 _ rfl) Try.underlying3 rfl) fun a hS => ?_
  refine l_seq rfl (l_buildDense (sz := 1) hS 2407 rfl rfl rfl Try.underlying33 rfl rfl rfl rfl rfl rfl rfl ?_); clear hS a; intro b88 a w hbb88 hK hS
  clear hbb88 hK
  replace hS := hS.add 135 (rdF (Rep.num .i64) (cellsOfL [.int .i64 (x69.Low)]) ([x69.Low])) (RdAll.cons (by exact rfl) (RdAll.nil _ _ _))
  have hs90 := row_src (hS.wd.holds 2407 _ rfl) (RdAll.one (hS.fact (k := 135) rfl))
  refine l_seq rfl (l_append (sz := 1) (by_ := 8) (N := ((t_61 ++ [x69.High]) ++ [x69.Low]).length) (ys := (cs64 ++ (cellsOfL [.int .i64 (x69.High)])) ++ (cellsOfL [.int .i64 (x69.Low)])) hS 700127 rfl rfl rfl Try.underlying33 rfl rfl rfl rfl rfl hs90 (by simp) rfl (by have hr := hk83; clear hg; first | omega | (simp only [List.length_append, List.length_cons, List.length_nil] at hr ⊢; omega) | (simp at hr ⊢; omega)) (by have hr := hk83; clear hg; first | omega | (simp only [List.length_append, List.length_cons, List.length_nil] at hr ⊢; omega) | (simp at hr ⊢; omega)) rfl ?_); clear hS a; intro Aq89 cq89 a w hA hK hS
  clear hK hA
  replace hS := hS.add 136 (rdF (Rep.num .i64) ((cs64 ++ (cellsOfL [.int .i64 (x69.High)])) ++ (cellsOfL [.int .i64 (x69.Low)])) ((t_61 ++ [x69.High]) ++ [x69.Low])) (RdAll.append (hS.fact (k := 132) rfl) (hS.fact (k := 135) rfl))
  refine qq hS rfl (y_assign hS rfl) fun a hS => ?_
  apply wpList_nil
  refine p_inN ?_
  refine p_norm ?_
  apply wp_region_lit
  refine qq hS rfl (y_move hS rfl) fun a hS => ?_
  refine qq hS rfl (y_addN (i := t_65) (j := 1) hS rfl rfl (in64.2 (by omega))) fun a hS => ?_
  refine qq hS rfl (y_assign hS rfl) fun a hS => ?_
  apply wN
  replace hS := hS.add 128 (rdF (Rep.num .i64) ((cs64 ++ (cellsOfL [.int .i64 (x69.High)])) ++ (cellsOfL [.int .i64 (x69.Low)])) ((t_61 ++ [x69.High]) ++ [x69.Low])) (hS.fact (k := 136) rfl)
  exact ⟨m3, Nat.lt_succ_self _, ⟨((t_61 ++ [x69.High]) ++ [x69.Low]), (t_65 + 1), (Aq89), (cq89), ((cs64 ++ (cellsOfL [.int .i64 (x69.High)])) ++ (cellsOfL [.int .i64 (x69.Low)])), hg, (hS.sb rfl rfl rfl)⟩⟩
 ·replace hg := br_f hg hc66
  apply wp_exit
  refine p_then ?_
  refine p_then ?_
  refine p_in ?_
  refine p_norm ?_
  apply wR
  refine qq hS rfl (y_move hS rfl) fun a hS => ?_
  refine qq hS rfl (y_assign hS rfl) fun a hS => ?_
  apply wN
  apply wp_ret
  obtain rfl := Option.some.inj hg
  refine fin1 (fn := Try.f54) hS rfl (r_tmp hS rfl) ?_
  exact ⟨(A62), (c63), rfl, (hS.rowOut (R := (Rep.num .i64)) (kk := 700127) rfl rfl (hS.fact (k := 128) rfl))⟩
set_option maxHeartbeats 400000 in
theorem c_r39_handles (n : Nat) (M : Bs) (w0 : World) (hM : ∀ b, M b → b < w0.heap.size) (m_ : MRS) (Ap03 : Option Addr) (cp03 : Nat) (Ap04 : Option Addr) (cp04 : Nat) (Ap05 : Option Addr) (cp05 : Nat) (hp03 : SlR Rep.str M w0 Ap03 (m_.Vars).length cp03 (m_.Vars)) (hp04 : SlR REP M w0 Ap04 (m_.Rels).length cp04 (m_.Rels)) (hp05 : SlR RQeq M w0 Ap05 (m_.Cons).length cp05 (m_.Cons)) (r : (List Int)) (hg : r39_handles n m_ = some r) :
    Calls Try.prog 55 [.agg #[.int .i64 (m_.Top), .int .i64 (m_.Index), .slice (Ap03) ((m_.Vars).length) (cp03), .slice (Ap04) ((m_.Rels).length) (cp04), .slice (Ap05) ((m_.Cons).length) (cp05)]].toArray w0 (Ret noB w0 fun v w => ∃ (Aa1 : Option Addr), ∃ (ca1 : Nat), v = .slice (Aa1) ((r).length) (ca1) ∧ (SlR (Rep.num .i64) M w Aa1 (r).length ca1 (r))) := by
 unfold r39_handles at hg
 refine enter M noB Try.func55 rfl rfl hM ?_
 intro a hS
 replace hS := hS.es 101 hp03
 replace hS := hS.es 102 hp04
 replace hS := hS.es 103 hp05
 apply wR
 refine l_seq rfl (l_box (zs := [.int .i64 (m_.Top), .int .i64 (m_.Index), .slice (Ap03) ((m_.Vars).length) (cp03), .slice (Ap04) ((m_.Rels).length) (cp04), .slice (Ap05) ((m_.Cons).length) (cp05)]) hS 1000 rfl rfl rfl rfl ?_); clear hS a; intro b2 a w hb hK hS
 clear hb hK
 refine qq hS rfl (y_assign hS rfl) fun a hS => ?_
 apply wN
 apply wR
 refine qq hS rfl (y_boxField (o' := 0) hS rfl Try.underlying26 rfl rfl rfl) fun a hS => ?_
 refine qq hS rfl (y_loadBox1 (kk := 1000) hS rfl rfl rfl Try.underlying3 rfl) fun a hS => ?_
 refine l_seq rfl (l_buildDense (sz := 1) hS 1102 rfl rfl rfl Try.underlying33 rfl rfl rfl rfl rfl rfl rfl ?_); clear hS a; intro b4 a w hbb4 hK hS
 clear hbb4 hK
 refine qq hS rfl (y_assign hS rfl) fun a hS => ?_
 apply wN
 apply wp_seq
 apply wR
 refine qq hS rfl (y_assign hS rfl) fun a hS => ?_
 apply wN
 obtain ⟨k5, hg, hk5⟩ := jn_some hg
 refine c_post (fun a w => ∃ (out_6 : (List Int)), ∃ (A7 : Option Addr), ∃ (c8 : Nat), ∃ (cs9 : List Value), k5 out_6 = some r ∧ St (⟨Try.f55.ntmps, M, noB, w0⟩ : Ctx) [(1, .pointer (some ⟨b2, 0, none⟩)), (3, .slice (A7) ((out_6).length) (c8))] [(1000, Ob.box b2 [.int .i64 (m_.Top), .int .i64 (m_.Index), .slice (Ap03) ((m_.Vars).length) (cp03), .slice (Ap04) ((m_.Rels).length) (cp04), .slice (Ap05) ((m_.Cons).length) (cp05)] 26), (700104, Ob.row (A7) ((out_6).length) (c8) 3 1 (cs9))] [(101, slF Rep.str (Ap03) ((m_.Vars).length) (cp03) (m_.Vars)), (102, slF REP (Ap04) ((m_.Rels).length) (cp04) (m_.Rels)), (103, slF RQeq (Ap05) ((m_.Cons).length) (cp05) (m_.Cons)), (105, rdF (Rep.num .i64) (cs9) (out_6))] a w) ?_ ?_
 ·apply wp_block
  replace hS := hS.add 108 (rdF (Rep.num .i64) (cellsOfL [.int .i64 (m_.Top)]) ([m_.Top])) (RdAll.cons (by exact rfl) (RdAll.nil _ _ _))
  replace hS := hS.al 107 108 rfl
  replace hS := hS.pk [(1000, 1000), (700106, 1102)] (by decide)
  refine c_loop (σ := Nat) (fun m1 a w => ∃ (out_10 : (List Int)), ∃ (i_14 : Nat), ∃ (A11 : Option Addr), ∃ (c12 : Nat), ∃ (cs13 : List Value), r39_handles_L0 n m_ k5 m1 out_10 i_14 = some r ∧ St (⟨Try.f55.ntmps, M, noB, w0⟩ : Ctx) [(1, .pointer (some ⟨b2, 0, none⟩)), (3, .slice (A11) ((out_10).length) (c12)), (4, .int .i64 (((i_14 : Nat) : Int)))] [(1000, Ob.box b2 [.int .i64 (m_.Top), .int .i64 (m_.Index), .slice (Ap03) ((m_.Vars).length) (cp03), .slice (Ap04) ((m_.Rels).length) (cp04), .slice (Ap05) ((m_.Cons).length) (cp05)] 26), (700106, Ob.row (A11) ((out_10).length) (c12) 3 1 (cs13))] [(101, slF Rep.str (Ap03) ((m_.Vars).length) (cp03) (m_.Vars)), (102, slF REP (Ap04) ((m_.Rels).length) (cp04) (m_.Rels)), (103, slF RQeq (Ap05) ((m_.Cons).length) (cp05) (m_.Cons)), (107, rdF (Rep.num .i64) (cs13) (out_10))] a w) (fun m1 => m1) n ⟨([m_.Top]), (0), (some ⟨b4, 0, none⟩), (1), (cellsOfL [.int .i64 (m_.Top)]), hg, (hS.sb rfl rfl rfl)⟩ ?_
  clear hS a; rintro m1 a w ⟨out_10, i_14, A11, c12, cs13, hg, hS⟩
  rcases m1 with _ | m1
  ·rw [r39_handles_L0] at hg; cases hg
  rw [r39_handles_L0] at hg
  apply wp_seq
  apply wR
  refine qq hS rfl (y_move hS rfl) fun a hS => ?_
  refine qq hS rfl (y_boxField (o' := 3) hS rfl Try.underlying26 rfl rfl rfl) fun a hS => ?_
  refine qq hS rfl (y_loadBox1 (kk := 1000) hS rfl rfl rfl Try.underlying23 rfl) fun a hS => ?_
  refine qq hS rfl (y_lenSlice hS rfl Try.underlying23) fun a hS => ?_
  refine qq hS rfl (y_lssN (i := i_14) (j := ((m_.Rels).length)) hS rfl rfl) fun a hS => ?_
  apply wN
  refine c_dec hS rfl (fun hc15 => ?_) (fun hc15 => ?_)
  ·replace hg := br_t hg hc15
   have hmx16 := SlR.mx (hS.fact (k := 102) rfl)
   apply wp_skip
   refine p_norm ?_
   apply wp_seq
   apply wp_block
   obtain ⟨x18, hx18, hg⟩ := bind_some hg
   obtain ⟨hk21, hg⟩ := chk_some hg
   apply wp_region_lit
   refine qq hS rfl (y_move hS rfl) fun a hS => ?_
   refine qq hS rfl (y_boxField (o' := 3) hS rfl Try.underlying26 rfl rfl rfl) fun a hS => ?_
   refine qq hS rfl (y_loadBox1 (kk := 1000) hS rfl rfl rfl Try.underlying23 rfl) fun a hS => ?_
   refine qq hS rfl (y_move hS rfl) fun a hS => ?_
   obtain ⟨p24, hep24, hpp24⟩ := SlR.elemX (hS.fact (k := 102) rfl) hx18
   refine qq hS rfl (y_elem (sz := 3) (i := i_14) hS rfl rfl Try.underlying23 rfl hep24 rfl (lt_of_get hx18)) fun a hS => ?_
   refine qq hS rfl (y_ptrField (o' := 1) hS rfl Try.underlying55 rfl rfl rfl) fun a hS => ?_
   obtain ⟨hlq25, hmq25, csq25, hdq25, hcq25⟩ := hpp24
   obtain ⟨Aq253, cq253, rfl, lq251, hq253⟩ := REP.open hdq25
   replace hS := hS.add 112 (slF RArg (Aq253) ((x18.Args).length) (cq253) (x18.Args)) hq253
   refine qq hS rfl (y_ldp1 hS rfl hlq25 hmq25 (hcq25 1 _ rfl) Try.underlying3 rfl) fun a hS => ?_
   refine l_seq rfl (l_buildDense (sz := 1) hS 1507 rfl rfl rfl Try.underlying33 rfl rfl rfl rfl rfl rfl rfl ?_); clear hS a; intro b26 a w hbb26 hK hS
   clear hbb26 hK
   replace hS := hS.add 113 (rdF (Rep.num .i64) (cellsOfL [.int .i64 (x18.Label)]) ([x18.Label])) (RdAll.cons (by exact rfl) (RdAll.nil _ _ _))
   have hs28 := row_src (hS.wd.holds 1507 _ rfl) (RdAll.one (hS.fact (k := 113) rfl))
   refine l_seq rfl (l_append (sz := 1) (by_ := 8) (N := (out_10 ++ [x18.Label]).length) (ys := cs13 ++ (cellsOfL [.int .i64 (x18.Label)])) hS 700106 rfl rfl rfl Try.underlying33 rfl rfl rfl rfl rfl hs28 (by simp) rfl (by have hr := hk21; clear hg; first | omega | (simp only [List.length_append, List.length_cons, List.length_nil] at hr ⊢; omega) | (simp at hr ⊢; omega)) (by have hr := hk21; clear hg; first | omega | (simp only [List.length_append, List.length_cons, List.length_nil] at hr ⊢; omega) | (simp at hr ⊢; omega)) rfl ?_); clear hS a; intro Aq27 cq27 a w hA hK hS
   clear hK hA
   replace hS := hS.add 114 (rdF (Rep.num .i64) (cs13 ++ (cellsOfL [.int .i64 (x18.Label)])) (out_10 ++ [x18.Label])) (RdAll.append (hS.fact (k := 107) rfl) (hS.fact (k := 113) rfl))
   refine qq hS rfl (y_assign hS rfl) fun a hS => ?_
   apply wpList_nil
   refine p_inN ?_
   refine p_norm ?_
   apply wp_region_lit
   refine qq hS rfl (y_move hS rfl) fun a hS => ?_
   refine qq hS rfl (y_addN (i := i_14) (j := 1) hS rfl rfl (in64.2 (by omega))) fun a hS => ?_
   refine qq hS rfl (y_assign hS rfl) fun a hS => ?_
   apply wN
   replace hS := hS.al 107 114 rfl
   exact ⟨m1, Nat.lt_succ_self _, ⟨(out_10 ++ [x18.Label]), (i_14 + 1), (Aq27), (cq27), (cs13 ++ (cellsOfL [.int .i64 (x18.Label)])), hg, (hS.sb rfl rfl rfl)⟩⟩
  ·replace hg := br_f hg hc15
   apply wp_exit
   refine p_then ?_
   refine p_then ?_
   refine p_in ?_
   refine p_norm ?_
   replace hS := hS.al 105 107 rfl
   replace hS := hS.pk [(1000, 1000), (700104, 700106)] (by decide)
   exact ⟨(out_10), (A11), (c12), (cs13), hg, (hS.sb rfl rfl rfl)⟩
 clear hS a; rintro a w ⟨out_6, A7, c8, cs9, hg, hS⟩
 subst hk5
 apply wp_seq
 apply wR
 refine qq hS rfl (y_assign hS rfl) fun a hS => ?_
 apply wN
 apply wp_block
 replace hS := hS.al 116 105 rfl
 replace hS := hS.pk [(1000, 1000), (700115, 700104)] (by decide)
 refine c_loop (σ := Nat) (fun m2 a w => ∃ (out_29 : (List Int)), ∃ (i_33 : Nat), ∃ (A30 : Option Addr), ∃ (c31 : Nat), ∃ (cs32 : List Value), r39_handles_L1 n m_ m2 out_29 i_33 = some r ∧ St (⟨Try.f55.ntmps, M, noB, w0⟩ : Ctx) [(1, .pointer (some ⟨b2, 0, none⟩)), (3, .slice (A30) ((out_29).length) (c31)), (5, .int .i64 (((i_33 : Nat) : Int)))] [(1000, Ob.box b2 [.int .i64 (m_.Top), .int .i64 (m_.Index), .slice (Ap03) ((m_.Vars).length) (cp03), .slice (Ap04) ((m_.Rels).length) (cp04), .slice (Ap05) ((m_.Cons).length) (cp05)] 26), (700115, Ob.row (A30) ((out_29).length) (c31) 3 1 (cs32))] [(101, slF Rep.str (Ap03) ((m_.Vars).length) (cp03) (m_.Vars)), (102, slF REP (Ap04) ((m_.Rels).length) (cp04) (m_.Rels)), (103, slF RQeq (Ap05) ((m_.Cons).length) (cp05) (m_.Cons)), (116, rdF (Rep.num .i64) (cs32) (out_29))] a w) (fun m2 => m2) n ⟨(out_6), (0), (A7), (c8), (cs9), hg, (hS.sb rfl rfl rfl)⟩ ?_
 clear hS a; rintro m2 a w ⟨out_29, i_33, A30, c31, cs32, hg, hS⟩
 rcases m2 with _ | m2
 ·rw [r39_handles_L1] at hg; cases hg
 rw [r39_handles_L1] at hg
 apply wp_seq
 apply wR
 refine qq hS rfl (y_move hS rfl) fun a hS => ?_
 refine qq hS rfl (y_boxField (o' := 4) hS rfl Try.underlying26 rfl rfl rfl) fun a hS => ?_
 refine qq hS rfl (y_loadBox1 (kk := 1000) hS rfl rfl rfl Try.underlying24 rfl) fun a hS => ?_
 refine qq hS rfl (y_lenSlice hS rfl Try.underlying24) fun a hS => ?_
 refine qq hS rfl (y_lssN (i := i_33) (j := ((m_.Cons).length)) hS rfl rfl) fun a hS => ?_
 apply wN
 refine c_dec hS rfl (fun hc34 => ?_) (fun hc34 => ?_)
 ·replace hg := br_t hg hc34
  have hmx35 := SlR.mx (hS.fact (k := 103) rfl)
  apply wp_skip
  refine p_norm ?_
  apply wp_seq
  apply wp_block
  apply wp_seq
  obtain ⟨x37, hx37, hg⟩ := bind_some hg
  obtain ⟨hk40, hg⟩ := chk_some hg
  apply wp_region_lit
  refine qq hS rfl (y_move hS rfl) fun a hS => ?_
  refine qq hS rfl (y_boxField (o' := 4) hS rfl Try.underlying26 rfl rfl rfl) fun a hS => ?_
  refine qq hS rfl (y_loadBox1 (kk := 1000) hS rfl rfl rfl Try.underlying24 rfl) fun a hS => ?_
  refine qq hS rfl (y_move hS rfl) fun a hS => ?_
  obtain ⟨p43, hep43, hpp43⟩ := SlR.elemX (hS.fact (k := 103) rfl) hx37
  refine qq hS rfl (y_elem (sz := 2) (i := i_33) hS rfl rfl Try.underlying24 rfl hep43 rfl (lt_of_get hx37)) fun a hS => ?_
  refine qq hS rfl (y_ptrField (o' := 0) hS rfl Try.underlying45 rfl rfl rfl) fun a hS => ?_
  obtain ⟨hlq44, hmq44, csq44, hdq44, hcq44⟩ := hpp43
  obtain rfl := RQeq.open hdq44
  refine qq hS rfl (y_ldp1 hS rfl hlq44 hmq44 (hcq44 0 _ rfl) Try.underlying3 rfl) fun a hS => ?_
  refine l_seq rfl (l_buildDense (sz := 1) hS 1907 rfl rfl rfl Try.underlying33 rfl rfl rfl rfl rfl rfl rfl ?_); clear hS a; intro b45 a w hbb45 hK hS
  clear hbb45 hK
  replace hS := hS.add 119 (rdF (Rep.num .i64) (cellsOfL [.int .i64 (x37.High)]) ([x37.High])) (RdAll.cons (by exact rfl) (RdAll.nil _ _ _))
  have hs47 := row_src (hS.wd.holds 1907 _ rfl) (RdAll.one (hS.fact (k := 119) rfl))
  refine l_seq rfl (l_append (sz := 1) (by_ := 8) (N := (out_29 ++ [x37.High]).length) (ys := cs32 ++ (cellsOfL [.int .i64 (x37.High)])) hS 700115 rfl rfl rfl Try.underlying33 rfl rfl rfl rfl rfl hs47 (by simp) rfl (by have hr := hk40; clear hg; first | omega | (simp only [List.length_append, List.length_cons, List.length_nil] at hr ⊢; omega) | (simp at hr ⊢; omega)) (by have hr := hk40; clear hg; first | omega | (simp only [List.length_append, List.length_cons, List.length_nil] at hr ⊢; omega) | (simp at hr ⊢; omega)) rfl ?_); clear hS a; intro Aq46 cq46 a w hA hK hS
  clear hK hA
  replace hS := hS.add 120 (rdF (Rep.num .i64) (cs32 ++ (cellsOfL [.int .i64 (x37.High)])) (out_29 ++ [x37.High])) (RdAll.append (hS.fact (k := 116) rfl) (hS.fact (k := 119) rfl))
  refine qq hS rfl (y_assign hS rfl) fun a hS => ?_
  apply wN
  obtain ⟨hk51, hg⟩ := chk_some hg
  apply wp_region_lit
  refine qq hS rfl (y_move hS rfl) fun a hS => ?_
  refine qq hS rfl (y_boxField (o' := 4) hS rfl Try.underlying26 rfl rfl rfl) fun a hS => ?_
  refine qq hS rfl (y_loadBox1 (kk := 1000) hS rfl rfl rfl Try.underlying24 rfl) fun a hS => ?_
  refine qq hS rfl (y_move hS rfl) fun a hS => ?_
  obtain ⟨p54, hep54, hpp54⟩ := SlR.elemX (hS.fact (k := 103) rfl) hx37
  refine qq hS rfl (y_elem (sz := 2) (i := i_33) hS rfl rfl Try.underlying24 rfl hep54 rfl (lt_of_get hx37)) fun a hS => ?_
  refine qq hS rfl (y_ptrField (o' := 1) hS rfl Try.underlying45 rfl rfl rfl) fun a hS => ?_
  obtain ⟨hlq55, hmq55, csq55, hdq55, hcq55⟩ := hpp54
  obtain rfl := RQeq.open hdq55
  refine qq hS rfl (y_ldp1 hS rfl hlq55 hmq55 (hcq55 1 _ rfl) Try.underlying3 rfl) fun a hS => ?_
  refine l_seq rfl (l_buildDense (sz := 1) hS 2007 rfl rfl rfl Try.underlying33 rfl rfl rfl rfl rfl rfl rfl ?_); clear hS a; intro b56 a w hbb56 hK hS
  clear hbb56 hK
  replace hS := hS.add 123 (rdF (Rep.num .i64) (cellsOfL [.int .i64 (x37.Low)]) ([x37.Low])) (RdAll.cons (by exact rfl) (RdAll.nil _ _ _))
  have hs58 := row_src (hS.wd.holds 2007 _ rfl) (RdAll.one (hS.fact (k := 123) rfl))
  refine l_seq rfl (l_append (sz := 1) (by_ := 8) (N := ((out_29 ++ [x37.High]) ++ [x37.Low]).length) (ys := (cs32 ++ (cellsOfL [.int .i64 (x37.High)])) ++ (cellsOfL [.int .i64 (x37.Low)])) hS 700115 rfl rfl rfl Try.underlying33 rfl rfl rfl rfl rfl hs58 (by simp) rfl (by have hr := hk51; clear hg; first | omega | (simp only [List.length_append, List.length_cons, List.length_nil] at hr ⊢; omega) | (simp at hr ⊢; omega)) (by have hr := hk51; clear hg; first | omega | (simp only [List.length_append, List.length_cons, List.length_nil] at hr ⊢; omega) | (simp at hr ⊢; omega)) rfl ?_); clear hS a; intro Aq57 cq57 a w hA hK hS
  clear hK hA
  replace hS := hS.add 124 (rdF (Rep.num .i64) ((cs32 ++ (cellsOfL [.int .i64 (x37.High)])) ++ (cellsOfL [.int .i64 (x37.Low)])) ((out_29 ++ [x37.High]) ++ [x37.Low])) (RdAll.append (hS.fact (k := 120) rfl) (hS.fact (k := 123) rfl))
  refine qq hS rfl (y_assign hS rfl) fun a hS => ?_
  apply wpList_nil
  refine p_inN ?_
  refine p_norm ?_
  apply wp_region_lit
  refine qq hS rfl (y_move hS rfl) fun a hS => ?_
  refine qq hS rfl (y_addN (i := i_33) (j := 1) hS rfl rfl (in64.2 (by omega))) fun a hS => ?_
  refine qq hS rfl (y_assign hS rfl) fun a hS => ?_
  apply wN
  replace hS := hS.add 116 (rdF (Rep.num .i64) ((cs32 ++ (cellsOfL [.int .i64 (x37.High)])) ++ (cellsOfL [.int .i64 (x37.Low)])) ((out_29 ++ [x37.High]) ++ [x37.Low])) (hS.fact (k := 124) rfl)
  exact ⟨m2, Nat.lt_succ_self _, ⟨((out_29 ++ [x37.High]) ++ [x37.Low]), (i_33 + 1), (Aq57), (cq57), ((cs32 ++ (cellsOfL [.int .i64 (x37.High)])) ++ (cellsOfL [.int .i64 (x37.Low)])), hg, (hS.sb rfl rfl rfl)⟩⟩
 ·replace hg := br_f hg hc34
  apply wp_exit
  refine p_then ?_
  refine p_then ?_
  refine p_in ?_
  refine p_norm ?_
  apply wR
  refine qq hS rfl (y_move hS rfl) fun a hS => ?_
  refine qq hS rfl (y_assign hS rfl) fun a hS => ?_
  apply wN
  apply wp_ret
  obtain rfl := Option.some.inj hg
  refine fin1 (fn := Try.f55) hS rfl (r_tmp hS rfl) ?_
  exact ⟨(A30), (c31), rfl, (hS.rowOut (R := (Rep.num .i64)) (kk := 700115) rfl rfl (hS.fact (k := 116) rfl))⟩
set_option maxHeartbeats 400000 in
theorem c_r39_Loose (n : Nat) (M : Bs) (w0 : World) (hM : ∀ b, M b → b < w0.heap.size) (t_ : MRS) (Ap03 : Option Addr) (cp03 : Nat) (Ap04 : Option Addr) (cp04 : Nat) (Ap05 : Option Addr) (cp05 : Nat) (hp03 : SlR Rep.str M w0 Ap03 (t_.Vars).length cp03 (t_.Vars)) (hp04 : SlR REP M w0 Ap04 (t_.Rels).length cp04 (t_.Rels)) (hp05 : SlR RQeq M w0 Ap05 (t_.Cons).length cp05 (t_.Cons)) (r : Int) (hg : r39_Loose n t_ = some r) :
    Calls Try.prog 33 [.agg #[.int .i64 (t_.Top), .int .i64 (t_.Index), .slice (Ap03) ((t_.Vars).length) (cp03), .slice (Ap04) ((t_.Rels).length) (cp04), .slice (Ap05) ((t_.Cons).length) (cp05)]].toArray w0 (Ret noB w0 fun v w => v = .int .i64 (r)) := by
 unfold r39_Loose at hg
 refine enter M noB Try.func33 rfl rfl hM ?_
 intro a hS
 replace hS := hS.es 101 hp03
 replace hS := hS.es 102 hp04
 replace hS := hS.es 103 hp05
 apply wR
 refine l_seq rfl (l_box (zs := [.int .i64 (t_.Top), .int .i64 (t_.Index), .slice (Ap03) ((t_.Vars).length) (cp03), .slice (Ap04) ((t_.Rels).length) (cp04), .slice (Ap05) ((t_.Cons).length) (cp05)]) hS 1000 rfl rfl rfl rfl ?_); clear hS a; intro b2 a w hb hK hS
 clear hb hK
 refine qq hS rfl (y_assign hS rfl) fun a hS => ?_
 apply wN
 apply wp_seq
 apply wp_seq
 obtain ⟨k3, hg, hk3⟩ := jn_some hg
 refine c_post (fun a w => ∃ (t_4 : Bool), k3 t_4 = some r ∧ St (⟨Try.f33.ntmps, M, noB, w0⟩ : Ctx) [(1, .pointer (some ⟨b2, 0, none⟩)), (25, .bool (t_4))] [(1000, Ob.box b2 [.int .i64 (t_.Top), .int .i64 (t_.Index), .slice (Ap03) ((t_.Vars).length) (cp03), .slice (Ap04) ((t_.Rels).length) (cp04), .slice (Ap05) ((t_.Cons).length) (cp05)] 26)] [(101, slF Rep.str (Ap03) ((t_.Vars).length) (cp03) (t_.Vars)), (102, slF REP (Ap04) ((t_.Rels).length) (cp04) (t_.Rels)), (103, slF RQeq (Ap05) ((t_.Cons).length) (cp05) (t_.Cons))] a w) ?_ ?_
 ·rcases Decidable.em ((16 : Nat) < ((t_.Rels).length)) with hs5 | hs5
  ·have hs5e : decide ((16 : Nat) < ((t_.Rels).length)) = true := decide_eq_true hs5
   replace hg := br_t hg hs5
   have hmx6 := SlR.mx (hS.fact (k := 102) rfl)
   apply wp_region_lit
   refine qq hS rfl (y_boxField (o' := 3) hS rfl Try.underlying26 rfl rfl rfl) fun a hS => ?_
   refine qq hS rfl (y_loadBox1 (kk := 1000) hS rfl rfl rfl Try.underlying23 rfl) fun a hS => ?_
   refine qq hS rfl (y_lenSlice hS rfl Try.underlying23) fun a hS => ?_
   refine qq hS rfl (yl_b (y_gtrN (i := ((t_.Rels).length)) (j := 16) hS rfl rfl) hs5e) fun a hS => ?_
   refine qq hS rfl (y_move hS rfl) fun a hS => ?_
   refine gn hS rfl fun a hS => ?_
   refine gn hS rfl fun a hS => ?_
   refine gn hS rfl fun a hS => ?_
   refine gn hS rfl fun a hS => ?_
   refine qq hS rfl (y_pick_t hS rfl rfl) fun a hS => ?_
   refine qq hS rfl (y_move hS rfl) fun a hS => ?_
   refine gn hS rfl fun a hS => ?_
   refine gn hS rfl fun a hS => ?_
   refine gn hS rfl fun a hS => ?_
   refine gn hS rfl fun a hS => ?_
   refine qq hS rfl (y_pick_t hS rfl rfl) fun a hS => ?_
   apply wN
   exact ⟨(true), hg, (hS.sb rfl rfl rfl)⟩
  ·have hs5e : decide ((16 : Nat) < ((t_.Rels).length)) = false := decide_eq_false hs5
   replace hg := br_f hg hs5
   rcases Decidable.em ((16 : Nat) < ((t_.Cons).length)) with hs7 | hs7
   ·have hs7e : decide ((16 : Nat) < ((t_.Cons).length)) = true := decide_eq_true hs7
    replace hg := br_t hg hs7
    have hmx8 := SlR.mx (hS.fact (k := 103) rfl)
    apply wp_region_lit
    refine qq hS rfl (y_boxField (o' := 3) hS rfl Try.underlying26 rfl rfl rfl) fun a hS => ?_
    refine qq hS rfl (y_loadBox1 (kk := 1000) hS rfl rfl rfl Try.underlying23 rfl) fun a hS => ?_
    refine qq hS rfl (y_lenSlice hS rfl Try.underlying23) fun a hS => ?_
    refine qq hS rfl (yl_b (y_gtrN (i := ((t_.Rels).length)) (j := 16) hS rfl rfl) hs5e) fun a hS => ?_
    refine qq hS rfl (y_move hS rfl) fun a hS => ?_
    refine gy hS rfl (y_boxField (o' := 4) hS rfl Try.underlying26 rfl rfl rfl) fun a hS => ?_
    refine gy hS rfl (y_loadBox1 (kk := 1000) hS rfl rfl rfl Try.underlying24 rfl) fun a hS => ?_
    refine gy hS rfl (y_lenSlice hS rfl Try.underlying24) fun a hS => ?_
    refine gy hS rfl (yl_b (y_gtrN (i := ((t_.Cons).length)) (j := 16) hS rfl rfl) hs7e) fun a hS => ?_
    refine qq hS rfl (y_pick_f hS rfl rfl) fun a hS => ?_
    refine qq hS rfl (y_move hS rfl) fun a hS => ?_
    refine gn hS rfl fun a hS => ?_
    refine gn hS rfl fun a hS => ?_
    refine gn hS rfl fun a hS => ?_
    refine gn hS rfl fun a hS => ?_
    refine qq hS rfl (y_pick_t hS rfl rfl) fun a hS => ?_
    apply wN
    exact ⟨(true), hg, (hS.sb rfl rfl rfl)⟩
   ·have hs7e : decide ((16 : Nat) < ((t_.Cons).length)) = false := decide_eq_false hs7
    replace hg := br_f hg hs7
    apply wp_region_lit
    refine qq hS rfl (y_boxField (o' := 3) hS rfl Try.underlying26 rfl rfl rfl) fun a hS => ?_
    refine qq hS rfl (y_loadBox1 (kk := 1000) hS rfl rfl rfl Try.underlying23 rfl) fun a hS => ?_
    refine qq hS rfl (y_lenSlice hS rfl Try.underlying23) fun a hS => ?_
    refine qq hS rfl (yl_b (y_gtrN (i := ((t_.Rels).length)) (j := 16) hS rfl rfl) hs5e) fun a hS => ?_
    refine qq hS rfl (y_move hS rfl) fun a hS => ?_
    refine gy hS rfl (y_boxField (o' := 4) hS rfl Try.underlying26 rfl rfl rfl) fun a hS => ?_
    refine gy hS rfl (y_loadBox1 (kk := 1000) hS rfl rfl rfl Try.underlying24 rfl) fun a hS => ?_
    refine gy hS rfl (y_lenSlice hS rfl Try.underlying24) fun a hS => ?_
    refine gy hS rfl (yl_b (y_gtrN (i := ((t_.Cons).length)) (j := 16) hS rfl rfl) hs7e) fun a hS => ?_
    refine qq hS rfl (y_pick_f hS rfl rfl) fun a hS => ?_
    refine qq hS rfl (y_move hS rfl) fun a hS => ?_
    refine gy hS rfl (y_boxField (o' := 2) hS rfl Try.underlying26 rfl rfl rfl) fun a hS => ?_
    refine gy hS rfl (y_loadBox1 (kk := 1000) hS rfl rfl rfl Try.underlying22 rfl) fun a hS => ?_
    refine gy hS rfl (y_lenSlice hS rfl Try.underlying22) fun a hS => ?_
    refine gy hS rfl (y_gtrN (i := ((t_.Vars).length)) (j := 256) hS rfl rfl) fun a hS => ?_
    refine qq hS rfl (y_pick_f hS rfl rfl) fun a hS => ?_
    apply wN
    exact ⟨(decide ((256 : Nat) < ((t_.Vars).length))), hg, (hS.sb rfl rfl rfl)⟩
 clear hS a; rintro a w ⟨t_4, hg, hS⟩
 subst hk3
 refine c_cond hS rfl (fun hc9 => ?_) (fun hc9 => ?_)
 ·replace hg := br_t hg hc9
  apply wR
  refine qq hS rfl (y_assign hS rfl) fun a hS => ?_
  apply wN
  apply wp_ret
  refine p_thenR ?_
  obtain rfl := Option.some.inj hg
  refine fin1 (fn := Try.f33) hS rfl (r_tmp hS rfl) ?_
  exact rfl
 ·replace hg := br_f hg (by rw [hc9]; exact Bool.false_ne_true)
  apply wp_skip
  refine p_norm ?_
  apply wp_seq
  apply wR
  refine qq hS rfl (y_assign hS rfl) fun a hS => ?_
  apply wN
  obtain ⟨k10, hg, hk10⟩ := jn_some hg
  refine c_post (fun a w => k10 = some r ∧ St (⟨Try.f33.ntmps, M, noB, w0⟩ : Ctx) [(1, .pointer (some ⟨b2, 0, none⟩))] [(1000, Ob.box b2 [.int .i64 (t_.Top), .int .i64 (t_.Index), .slice (Ap03) ((t_.Vars).length) (cp03), .slice (Ap04) ((t_.Rels).length) (cp04), .slice (Ap05) ((t_.Cons).length) (cp05)] 26)] [(101, slF Rep.str (Ap03) ((t_.Vars).length) (cp03) (t_.Vars)), (102, slF REP (Ap04) ((t_.Rels).length) (cp04) (t_.Rels)), (103, slF RQeq (Ap05) ((t_.Cons).length) (cp05) (t_.Cons))] a w) ?_ ?_
  ·apply wp_block
   refine c_loop (σ := Nat) (fun m1 a w => ∃ (t_11 : Nat), r39_Loose_L0 n t_ k10 m1 t_11 = some r ∧ St (⟨Try.f33.ntmps, M, noB, w0⟩ : Ctx) [(1, .pointer (some ⟨b2, 0, none⟩)), (3, .int .i64 (((t_11 : Nat) : Int)))] [(1000, Ob.box b2 [.int .i64 (t_.Top), .int .i64 (t_.Index), .slice (Ap03) ((t_.Vars).length) (cp03), .slice (Ap04) ((t_.Rels).length) (cp04), .slice (Ap05) ((t_.Cons).length) (cp05)] 26)] [(101, slF Rep.str (Ap03) ((t_.Vars).length) (cp03) (t_.Vars)), (102, slF REP (Ap04) ((t_.Rels).length) (cp04) (t_.Rels)), (103, slF RQeq (Ap05) ((t_.Cons).length) (cp05) (t_.Cons))] a w) (fun m1 => m1) n ⟨(0), hg, (hS.sb rfl rfl rfl)⟩ ?_
   clear hS a; rintro m1 a w ⟨t_11, hg, hS⟩
   rcases m1 with _ | m1
   ·rw [r39_Loose_L0] at hg; cases hg
   rw [r39_Loose_L0] at hg
   apply wp_seq
   apply wR
   refine qq hS rfl (y_move hS rfl) fun a hS => ?_
   refine qq hS rfl (y_boxField (o' := 2) hS rfl Try.underlying26 rfl rfl rfl) fun a hS => ?_
   refine qq hS rfl (y_loadBox1 (kk := 1000) hS rfl rfl rfl Try.underlying22 rfl) fun a hS => ?_
   refine qq hS rfl (y_lenSlice hS rfl Try.underlying22) fun a hS => ?_
   refine qq hS rfl (y_lssN (i := t_11) (j := ((t_.Vars).length)) hS rfl rfl) fun a hS => ?_
   apply wN
   refine c_dec hS rfl (fun hc12 => ?_) (fun hc12 => ?_)
   ·replace hg := br_t hg hc12
    have hmx13 := SlR.mx (hS.fact (k := 101) rfl)
    apply wp_skip
    refine p_norm ?_
    apply wp_seq
    apply wp_block
    apply wp_seq
    obtain ⟨x15, hx15, hg⟩ := bind_some hg
    obtain ⟨r17, hr17, hg⟩ := bind_some hg
    apply wp_region_lit
    refine qq hS rfl (y_boxField (o' := 2) hS rfl Try.underlying26 rfl rfl rfl) fun a hS => ?_
    refine qq hS rfl (y_loadBox1 (kk := 1000) hS rfl rfl rfl Try.underlying22 rfl) fun a hS => ?_
    refine qq hS rfl (y_move hS rfl) fun a hS => ?_
    obtain ⟨p20, hep20, hpp20⟩ := SlR.elemX (hS.fact (k := 101) rfl) hx15
    refine qq hS rfl (y_elem (sz := 1) (i := t_11) hS rfl rfl Try.underlying22 rfl hep20 rfl (lt_of_get hx15)) fun a hS => ?_
    obtain ⟨hlq21, hmq21, csq21, hdq21, hcq21⟩ := hpp20
    obtain ⟨rfl, lq211⟩ := hdq21
    refine qq hS rfl (y_ldp1 hS rfl hlq21 hmq21 (hcq21 0 _ rfl) Try.underlying9 rfl) fun a hS => ?_
    refine l_seq rfl (l_call (cap := []) hS rfl Try.func52 rfl (by kernel_rfl) rfl rfl (c_r39_sorted n _ _ hS.lt x15 (by omega) r17 hr17) ?_); clear hS a; intro v22 a w hK hp hS
    clear hK
    obtain rfl := hp
    refine qq hS rfl (y_not hS rfl) fun a hS => ?_
    apply wN
    refine c_cond hS rfl (fun hc24 => ?_) (fun hc24 => ?_)
    ·replace hg := br_t hg hc24
     apply wR
     refine qq hS rfl (y_assign hS rfl) fun a hS => ?_
     apply wN
     apply wp_ret
     refine p_inR ?_
     refine p_thenR ?_
     refine p_thenR ?_
     refine p_inR ?_
     refine p_thenR ?_
     obtain rfl := Option.some.inj hg
     refine fin1 (fn := Try.f33) hS rfl (r_tmp hS rfl) ?_
     exact rfl
    ·replace hg := br_f hg (by rw [hc24]; exact Bool.false_ne_true)
     apply wp_skip
     refine p_inN ?_
     refine p_norm ?_
     apply wp_region_lit
     refine qq hS rfl (y_move hS rfl) fun a hS => ?_
     refine qq hS rfl (y_addN (i := t_11) (j := 1) hS rfl rfl (in64.2 (by omega))) fun a hS => ?_
     refine qq hS rfl (y_assign hS rfl) fun a hS => ?_
     apply wN
     exact ⟨m1, Nat.lt_succ_self _, ⟨(t_11 + 1), hg, (hS.sb rfl rfl rfl)⟩⟩
   ·replace hg := br_f hg hc12
    apply wp_exit
    refine p_then ?_
    refine p_then ?_
    refine p_in ?_
    refine p_norm ?_
    exact ⟨hg, (hS.sb rfl rfl rfl)⟩
  clear hS a; rintro a w ⟨hg, hS⟩
  subst hk10
  apply wp_seq
  apply wR
  refine qq hS rfl (y_assign hS rfl) fun a hS => ?_
  apply wN
  obtain ⟨k25, hg, hk25⟩ := jn_some hg
  refine c_post (fun a w => k25 = some r ∧ St (⟨Try.f33.ntmps, M, noB, w0⟩ : Ctx) [(1, .pointer (some ⟨b2, 0, none⟩))] [(1000, Ob.box b2 [.int .i64 (t_.Top), .int .i64 (t_.Index), .slice (Ap03) ((t_.Vars).length) (cp03), .slice (Ap04) ((t_.Rels).length) (cp04), .slice (Ap05) ((t_.Cons).length) (cp05)] 26)] [(101, slF Rep.str (Ap03) ((t_.Vars).length) (cp03) (t_.Vars)), (102, slF REP (Ap04) ((t_.Rels).length) (cp04) (t_.Rels)), (103, slF RQeq (Ap05) ((t_.Cons).length) (cp05) (t_.Cons))] a w) ?_ ?_
  ·apply wp_block
   refine c_loop (σ := Nat) (fun m2 a w => ∃ (t_26 : Nat), r39_Loose_L1 n t_ k25 m2 t_26 = some r ∧ St (⟨Try.f33.ntmps, M, noB, w0⟩ : Ctx) [(1, .pointer (some ⟨b2, 0, none⟩)), (4, .int .i64 (((t_26 : Nat) : Int)))] [(1000, Ob.box b2 [.int .i64 (t_.Top), .int .i64 (t_.Index), .slice (Ap03) ((t_.Vars).length) (cp03), .slice (Ap04) ((t_.Rels).length) (cp04), .slice (Ap05) ((t_.Cons).length) (cp05)] 26)] [(101, slF Rep.str (Ap03) ((t_.Vars).length) (cp03) (t_.Vars)), (102, slF REP (Ap04) ((t_.Rels).length) (cp04) (t_.Rels)), (103, slF RQeq (Ap05) ((t_.Cons).length) (cp05) (t_.Cons))] a w) (fun m2 => m2) n ⟨(0), hg, (hS.sb rfl rfl rfl)⟩ ?_
   clear hS a; rintro m2 a w ⟨t_26, hg, hS⟩
   rcases m2 with _ | m2
   ·rw [r39_Loose_L1] at hg; cases hg
   rw [r39_Loose_L1] at hg
   apply wp_seq
   apply wR
   refine qq hS rfl (y_move hS rfl) fun a hS => ?_
   refine qq hS rfl (y_boxField (o' := 3) hS rfl Try.underlying26 rfl rfl rfl) fun a hS => ?_
   refine qq hS rfl (y_loadBox1 (kk := 1000) hS rfl rfl rfl Try.underlying23 rfl) fun a hS => ?_
   refine qq hS rfl (y_lenSlice hS rfl Try.underlying23) fun a hS => ?_
   refine qq hS rfl (y_lssN (i := t_26) (j := ((t_.Rels).length)) hS rfl rfl) fun a hS => ?_
   apply wN
   refine c_dec hS rfl (fun hc27 => ?_) (fun hc27 => ?_)
   ·replace hg := br_t hg hc27
    have hmx28 := SlR.mx (hS.fact (k := 102) rfl)
    apply wp_skip
    refine p_norm ?_
    apply wp_seq
    apply wp_block
    apply wp_seq
    obtain ⟨x30, hx30, hg⟩ := bind_some hg
    obtain ⟨r32, hr32, hg⟩ := bind_some hg
    apply wp_region_lit
    refine qq hS rfl (y_boxField (o' := 3) hS rfl Try.underlying26 rfl rfl rfl) fun a hS => ?_
    refine qq hS rfl (y_loadBox1 (kk := 1000) hS rfl rfl rfl Try.underlying23 rfl) fun a hS => ?_
    refine qq hS rfl (y_move hS rfl) fun a hS => ?_
    obtain ⟨p35, hep35, hpp35⟩ := SlR.elemX (hS.fact (k := 102) rfl) hx30
    refine qq hS rfl (y_elem (sz := 3) (i := t_26) hS rfl rfl Try.underlying23 rfl hep35 rfl (lt_of_get hx30)) fun a hS => ?_
    obtain ⟨hlq36, hmq36, csq36, hdq36, hcq36⟩ := hpp35
    obtain ⟨Aq363, cq363, rfl, lq361, hq363⟩ := REP.open hdq36
    replace hS := hS.add 105 (slF RArg (Aq363) ((x30.Args).length) (cq363) (x30.Args)) hq363
    refine qq hS rfl (y_ldp hS rfl hlq36 hmq36 (by simpa using hcq36) Try.underlying55 rfl rfl) fun a hS => ?_
    refine l_seq rfl (l_call (cap := []) hS rfl Try.func53 rfl (by kernel_rfl) rfl rfl (c_r39_predication n _ _ hS.lt x30 (Aq363) (cq363) (by omega) (hS.fact (k := 105) rfl) r32 hr32) ?_); clear hS a; intro v37 a w hK hp hS
    clear hK
    obtain rfl := hp
    refine qq hS rfl (y_assign hS rfl) fun a hS => ?_
    apply wN
    apply wR
    refine qq hS rfl (y_move hS rfl) fun a hS => ?_
    refine qq hS rfl (y_neq hS rfl rfl) fun a hS => ?_
    apply wN
    refine c_dec hS rfl (fun hc39 => ?_) (fun hc39 => ?_)
    ·replace hg := br_t hg hc39
     apply wR
     refine qq hS rfl (y_move hS rfl) fun a hS => ?_
     refine qq hS rfl (y_assign hS rfl) fun a hS => ?_
     apply wN
     apply wp_ret
     refine p_inR ?_
     refine p_thenR ?_
     refine p_thenR ?_
     refine p_inR ?_
     refine p_thenR ?_
     obtain rfl := Option.some.inj hg
     refine fin1 (fn := Try.f33) hS rfl (r_tmp hS rfl) ?_
     exact rfl
    ·replace hg := br_f hg hc39
     apply wp_skip
     refine p_inN ?_
     refine p_norm ?_
     apply wp_region_lit
     refine qq hS rfl (y_move hS rfl) fun a hS => ?_
     refine qq hS rfl (y_addN (i := t_26) (j := 1) hS rfl rfl (in64.2 (by omega))) fun a hS => ?_
     refine qq hS rfl (y_assign hS rfl) fun a hS => ?_
     apply wN
     exact ⟨m2, Nat.lt_succ_self _, ⟨(t_26 + 1), hg, (hS.sb rfl rfl rfl)⟩⟩
   ·replace hg := br_f hg hc27
    apply wp_exit
    refine p_then ?_
    refine p_then ?_
    refine p_in ?_
    refine p_norm ?_
    exact ⟨hg, (hS.sb rfl rfl rfl)⟩
  clear hS a; rintro a w ⟨hg, hS⟩
  subst hk25
  apply wp_seq
  obtain ⟨r40, hr40, hg⟩ := bind_some hg
  apply wp_region_lit
  refine qq hS rfl (y_loadBox (kk := 1000) (n := 5) (vs := [.int .i64 (t_.Top), .int .i64 (t_.Index), .slice (Ap03) ((t_.Vars).length) (cp03), .slice (Ap04) ((t_.Rels).length) (cp04), .slice (Ap05) ((t_.Cons).length) (cp05)]) hS rfl rfl Try.underlying26 rfl rfl rfl rfl) fun a hS => ?_
  refine l_seq rfl (l_call (cap := []) hS rfl Try.func54 rfl (by kernel_rfl) rfl rfl (c_r39_Occurrences n _ _ hS.lt t_ (Ap03) (cp03) (Ap04) (cp04) (Ap05) (cp05) (hS.fact (k := 101) rfl) (hS.fact (k := 102) rfl) (hS.fact (k := 103) rfl) r40 hr40) ?_); clear hS a; intro v43 a w hK hp hS
  clear hK
  obtain ⟨Au44a1, cu44a1, rfl, hu44a1⟩ := hp
  replace hS := hS.add 107 (slF (Rep.num .i64) (Au44a1) ((r40).length) (cu44a1) (r40)) hu44a1
  refine qq hS rfl (y_assign hS rfl) fun a hS => ?_
  apply wN
  apply wp_seq
  apply wR
  refine qq hS rfl (y_assign hS rfl) fun a hS => ?_
  apply wN
  obtain ⟨k45, hg, hk45⟩ := jn_some hg
  refine c_post (fun a w => k45 = some r ∧ St (⟨Try.f33.ntmps, M, noB, w0⟩ : Ctx) [(1, .pointer (some ⟨b2, 0, none⟩))] [(1000, Ob.box b2 [.int .i64 (t_.Top), .int .i64 (t_.Index), .slice (Ap03) ((t_.Vars).length) (cp03), .slice (Ap04) ((t_.Rels).length) (cp04), .slice (Ap05) ((t_.Cons).length) (cp05)] 26)] [(101, slF Rep.str (Ap03) ((t_.Vars).length) (cp03) (t_.Vars)), (102, slF REP (Ap04) ((t_.Rels).length) (cp04) (t_.Rels)), (103, slF RQeq (Ap05) ((t_.Cons).length) (cp05) (t_.Cons))] a w) ?_ ?_
  ·apply wp_block
   refine c_loop (σ := Nat) (fun m3 a w => ∃ (t_46 : Nat), r39_Loose_L2 n t_ r40 k45 m3 t_46 = some r ∧ St (⟨Try.f33.ntmps, M, noB, w0⟩ : Ctx) [(1, .pointer (some ⟨b2, 0, none⟩)), (6, .slice (Au44a1) ((r40).length) (cu44a1)), (7, .int .i64 (((t_46 : Nat) : Int)))] [(1000, Ob.box b2 [.int .i64 (t_.Top), .int .i64 (t_.Index), .slice (Ap03) ((t_.Vars).length) (cp03), .slice (Ap04) ((t_.Rels).length) (cp04), .slice (Ap05) ((t_.Cons).length) (cp05)] 26)] [(101, slF Rep.str (Ap03) ((t_.Vars).length) (cp03) (t_.Vars)), (102, slF REP (Ap04) ((t_.Rels).length) (cp04) (t_.Rels)), (103, slF RQeq (Ap05) ((t_.Cons).length) (cp05) (t_.Cons)), (107, slF (Rep.num .i64) (Au44a1) ((r40).length) (cu44a1) (r40))] a w) (fun m3 => m3) n ⟨(0), hg, (hS.sb rfl rfl rfl)⟩ ?_
   clear hS a; rintro m3 a w ⟨t_46, hg, hS⟩
   rcases m3 with _ | m3
   ·rw [r39_Loose_L2] at hg; cases hg
   rw [r39_Loose_L2] at hg
   apply wp_seq
   apply wR
   refine qq hS rfl (y_move hS rfl) fun a hS => ?_
   refine qq hS rfl (y_move hS rfl) fun a hS => ?_
   refine qq hS rfl (y_lenSlice hS rfl Try.underlying33) fun a hS => ?_
   refine qq hS rfl (y_lssN (i := t_46) (j := ((r40).length)) hS rfl rfl) fun a hS => ?_
   apply wN
   refine c_dec hS rfl (fun hc47 => ?_) (fun hc47 => ?_)
   ·replace hg := br_t hg hc47
    have hmx48 := SlR.mx (hS.fact (k := 107) rfl)
    apply wp_skip
    refine p_norm ?_
    apply wp_seq
    apply wp_block
    apply wp_seq
    obtain ⟨k49, hg, hk49⟩ := jn_some hg
    refine c_post (fun a w => ∃ (t_50 : Bool), k49 t_50 = some r ∧ St (⟨Try.f33.ntmps, M, noB, w0⟩ : Ctx) [(1, .pointer (some ⟨b2, 0, none⟩)), (6, .slice (Au44a1) ((r40).length) (cu44a1)), (7, .int .i64 (((t_46 : Nat) : Int))), (78, .bool (t_50))] [(1000, Ob.box b2 [.int .i64 (t_.Top), .int .i64 (t_.Index), .slice (Ap03) ((t_.Vars).length) (cp03), .slice (Ap04) ((t_.Rels).length) (cp04), .slice (Ap05) ((t_.Cons).length) (cp05)] 26)] [(101, slF Rep.str (Ap03) ((t_.Vars).length) (cp03) (t_.Vars)), (102, slF REP (Ap04) ((t_.Rels).length) (cp04) (t_.Rels)), (103, slF RQeq (Ap05) ((t_.Cons).length) (cp05) (t_.Cons)), (107, slF (Rep.num .i64) (Au44a1) ((r40).length) (cu44a1) (r40))] a w) ?_ ?_
    ·obtain ⟨x52, hx52, hg⟩ := bind_some hg
     rcases Decidable.em (x52 < 0) with hs54 | hs54
     ·have hs54e : decide (x52 < 0) = true := decide_eq_true hs54
      replace hg := br_t hg hs54
      refine d_plan hS [] [(0, some 0), (1, some 0), (2, some 0), (3, some 0), (4, some 0), (5, some 0), (6, some 0), (7, some 0), (8, some 0), (9, some 0), (10, some 0), (11, some 0), (12, some 0), (13, some 0), (14, some 0)] rfl (by kernel_rfl) (by kernel_rfl) rfl ?_; clear hS; intro wr hZ hS; have hR := hS.wd
      refine q_take hS hR rfl rfl rfl rfl (y_move hS rfl) fun a hS => ?_
      refine q_take hS hR rfl rfl rfl rfl (y_move hS rfl) fun a hS => ?_
      obtain ⟨p55, hep55, hpp55⟩ := SlR.elemX (hS.fact (k := 107) rfl) hx52
      refine q_take hS hR rfl rfl rfl rfl (y_elem (sz := 1) (i := t_46) hS rfl rfl Try.underlying33 rfl hep55 rfl (lt_of_get hx52)) fun a hS => ?_
      obtain ⟨hlq56, hmq56, csq56, hdq56, hcq56⟩ := hpp55
      obtain rfl := hdq56
      refine q_take hS hR rfl rfl rfl rfl (y_ldp1 hS rfl hlq56 hmq56 (hcq56 0 _ rfl) Try.underlying3 rfl) fun a hS => ?_
      refine q_take hS hR rfl rfl rfl rfl (yl_b (y_lss hS rfl rfl) hs54e) fun a hS => ?_
      refine q_take hS hR rfl rfl rfl rfl (y_move hS rfl) fun a hS => ?_
      refine q_pass hS hR rfl rfl ⟨_, _, _, rfl, rfl, rfl, rfl⟩ rfl fun a hS => ?_
      refine q_pass hS hR rfl rfl ⟨_, _, _, rfl, rfl, rfl, rfl⟩ rfl fun a hS => ?_
      refine q_pass hS hR rfl rfl ⟨_, _, _, rfl, rfl, rfl, rfl⟩ rfl fun a hS => ?_
      refine q_pass hS hR rfl rfl ⟨_, _, _, rfl, rfl, rfl, rfl⟩ rfl fun a hS => ?_
      refine q_pass hS hR rfl rfl ⟨_, _, _, rfl, rfl, rfl, rfl⟩ rfl fun a hS => ?_
      refine q_pass hS hR rfl rfl ⟨_, _, _, rfl, rfl, rfl, rfl⟩ rfl fun a hS => ?_
      refine q_pass hS hR rfl rfl ⟨_, _, _, rfl, rfl, rfl, rfl⟩ rfl fun a hS => ?_
      refine q_pass hS hR rfl rfl ⟨_, _, _, rfl, rfl, rfl, rfl⟩ rfl fun a hS => ?_
      refine q_take hS hR rfl rfl rfl rfl (y_pick_t hS rfl rfl) fun a hS => ?_
      clear hR hZ
      refine p_norm ?_
      exact ⟨(true), hg, (hS.sb rfl rfl rfl)⟩
     ·have hs54e : decide (x52 < 0) = false := decide_eq_false hs54
      replace hg := br_f hg hs54
      refine d_plan hS [] [(0, some 0), (1, some 0), (2, some 0), (3, some 0), (4, some 0), (5, some 0), (6, some 0), (7, some 0), (8, some 0), (9, some 0), (10, some 0), (11, some 1000), (12, some 0), (13, some 0), (14, some 0)] rfl (by kernel_rfl) (by kernel_rfl) rfl ?_; clear hS; intro wr hZ hS; have hR := hS.wd
      refine q_take hS hR rfl rfl rfl rfl (y_move hS rfl) fun a hS => ?_
      refine q_take hS hR rfl rfl rfl rfl (y_move hS rfl) fun a hS => ?_
      obtain ⟨p59, hep59, hpp59⟩ := SlR.elemX (hS.fact (k := 107) rfl) hx52
      refine q_take hS hR rfl rfl rfl rfl (y_elem (sz := 1) (i := t_46) hS rfl rfl Try.underlying33 rfl hep59 rfl (lt_of_get hx52)) fun a hS => ?_
      obtain ⟨hlq60, hmq60, csq60, hdq60, hcq60⟩ := hpp59
      obtain rfl := hdq60
      refine q_take hS hR rfl rfl rfl rfl (y_ldp1 hS rfl hlq60 hmq60 (hcq60 0 _ rfl) Try.underlying3 rfl) fun a hS => ?_
      refine q_take hS hR rfl rfl rfl rfl (yl_b (y_lss hS rfl rfl) hs54e) fun a hS => ?_
      refine q_take hS hR rfl rfl rfl rfl (y_move hS rfl) fun a hS => ?_
      refine q_take hS hR rfl rfl ⟨_, _, _, rfl, rfl, rfl, rfl⟩ rfl (y_move hS rfl) fun a hS => ?_
      refine q_take hS hR rfl rfl ⟨_, _, _, rfl, rfl, rfl, rfl⟩ rfl (y_move hS rfl) fun a hS => ?_
      obtain ⟨p61, hep61, hpp61⟩ := SlR.elemX (hS.fact (k := 107) rfl) hx52
      refine q_take hS hR rfl rfl ⟨_, _, _, rfl, rfl, rfl, rfl⟩ rfl (y_elem (sz := 1) (i := t_46) hS rfl rfl Try.underlying33 rfl hep61 rfl (lt_of_get hx52)) fun a hS => ?_
      obtain ⟨hlq62, hmq62, csq62, hdq62, hcq62⟩ := hpp61
      obtain rfl := hdq62
      refine q_take hS hR rfl rfl ⟨_, _, _, rfl, rfl, rfl, rfl⟩ rfl (y_ldp1 hS rfl hlq62 hmq62 (hcq62 0 _ rfl) Try.underlying3 rfl) fun a hS => ?_
      refine q_take hS hR rfl rfl ⟨_, _, _, rfl, rfl, rfl, rfl⟩ rfl (y_boxField (o' := 2) hS rfl Try.underlying26 rfl rfl rfl) fun a hS => ?_
      refine q_take hS hR rfl rfl ⟨_, _, _, rfl, rfl, rfl, rfl⟩ rfl (y_loadBox1 (kk := 1000) hS rfl rfl rfl Try.underlying22 rfl) fun a hS => ?_
      refine q_take hS hR rfl rfl ⟨_, _, _, rfl, rfl, rfl, rfl⟩ rfl (y_lenSlice hS rfl Try.underlying22) fun a hS => ?_
      refine q_take hS hR rfl rfl ⟨_, _, _, rfl, rfl, rfl, rfl⟩ rfl (y_geq hS rfl rfl) fun a hS => ?_
      refine q_take hS hR rfl rfl rfl rfl (y_pick_f hS rfl rfl) fun a hS => ?_
      clear hR hZ
      refine p_norm ?_
      exact ⟨(decide ((((t_.Vars).length : Nat) : Int) ≤ x52)), hg, (hS.sb rfl rfl rfl)⟩
    clear hS a; rintro a w ⟨t_50, hg, hS⟩
    subst hk49
    refine c_cond hS rfl (fun hc63 => ?_) (fun hc63 => ?_)
    ·replace hg := br_t hg hc63
     apply wR
     refine qq hS rfl (y_assign hS rfl) fun a hS => ?_
     apply wN
     apply wp_ret
     refine p_inR ?_
     refine p_thenR ?_
     refine p_thenR ?_
     refine p_inR ?_
     refine p_thenR ?_
     obtain rfl := Option.some.inj hg
     refine fin1 (fn := Try.f33) hS rfl (r_tmp hS rfl) ?_
     exact rfl
    ·replace hg := br_f hg (by rw [hc63]; exact Bool.false_ne_true)
     apply wp_skip
     refine p_inN ?_
     refine p_norm ?_
     apply wp_region_lit
     refine qq hS rfl (y_move hS rfl) fun a hS => ?_
     refine qq hS rfl (y_addN (i := t_46) (j := 1) hS rfl rfl (in64.2 (by omega))) fun a hS => ?_
     refine qq hS rfl (y_assign hS rfl) fun a hS => ?_
     apply wN
     exact ⟨m3, Nat.lt_succ_self _, ⟨(t_46 + 1), hg, (hS.sb rfl rfl rfl)⟩⟩
   ·replace hg := br_f hg hc47
    apply wp_exit
    refine p_then ?_
    refine p_then ?_
    refine p_in ?_
    refine p_norm ?_
    exact ⟨hg, (hS.sb rfl rfl rfl)⟩
  clear hS a; rintro a w ⟨hg, hS⟩
  subst hk45
  apply wp_seq
  obtain ⟨r64, hr64, hg⟩ := bind_some hg
  apply wp_region_lit
  refine qq hS rfl (y_loadBox (kk := 1000) (n := 5) (vs := [.int .i64 (t_.Top), .int .i64 (t_.Index), .slice (Ap03) ((t_.Vars).length) (cp03), .slice (Ap04) ((t_.Rels).length) (cp04), .slice (Ap05) ((t_.Cons).length) (cp05)]) hS rfl rfl Try.underlying26 rfl rfl rfl rfl) fun a hS => ?_
  refine l_seq rfl (l_call (cap := []) hS rfl Try.func55 rfl (by kernel_rfl) rfl rfl (c_r39_handles n _ _ hS.lt t_ (Ap03) (cp03) (Ap04) (cp04) (Ap05) (cp05) (hS.fact (k := 101) rfl) (hS.fact (k := 102) rfl) (hS.fact (k := 103) rfl) r64 hr64) ?_); clear hS a; intro v67 a w hK hp hS
  clear hK
  obtain ⟨Au68a1, cu68a1, rfl, hu68a1⟩ := hp
  replace hS := hS.add 109 (slF (Rep.num .i64) (Au68a1) ((r64).length) (cu68a1) (r64)) hu68a1
  refine qq hS rfl (y_assign hS rfl) fun a hS => ?_
  apply wN
  apply wp_seq
  apply wR
  refine qq hS rfl (y_assign hS rfl) fun a hS => ?_
  apply wN
  apply wp_block
  refine c_loop (σ := Nat) (fun m4 a w => ∃ (t_69 : Nat), r39_Loose_L3 n t_ r64 m4 t_69 = some r ∧ St (⟨Try.f33.ntmps, M, noB, w0⟩ : Ctx) [(1, .pointer (some ⟨b2, 0, none⟩)), (8, .slice (Au68a1) ((r64).length) (cu68a1)), (9, .int .i64 (((t_69 : Nat) : Int)))] [(1000, Ob.box b2 [.int .i64 (t_.Top), .int .i64 (t_.Index), .slice (Ap03) ((t_.Vars).length) (cp03), .slice (Ap04) ((t_.Rels).length) (cp04), .slice (Ap05) ((t_.Cons).length) (cp05)] 26)] [(101, slF Rep.str (Ap03) ((t_.Vars).length) (cp03) (t_.Vars)), (102, slF REP (Ap04) ((t_.Rels).length) (cp04) (t_.Rels)), (103, slF RQeq (Ap05) ((t_.Cons).length) (cp05) (t_.Cons)), (109, slF (Rep.num .i64) (Au68a1) ((r64).length) (cu68a1) (r64))] a w) (fun m4 => m4) n ⟨(0), hg, (hS.sb rfl rfl rfl)⟩ ?_
  clear hS a; rintro m4 a w ⟨t_69, hg, hS⟩
  rcases m4 with _ | m4
  ·rw [r39_Loose_L3] at hg; cases hg
  rw [r39_Loose_L3] at hg
  apply wp_seq
  apply wR
  refine qq hS rfl (y_move hS rfl) fun a hS => ?_
  refine qq hS rfl (y_move hS rfl) fun a hS => ?_
  refine qq hS rfl (y_lenSlice hS rfl Try.underlying33) fun a hS => ?_
  refine qq hS rfl (y_lssN (i := t_69) (j := ((r64).length)) hS rfl rfl) fun a hS => ?_
  apply wN
  refine c_dec hS rfl (fun hc70 => ?_) (fun hc70 => ?_)
  ·replace hg := br_t hg hc70
   have hmx71 := SlR.mx (hS.fact (k := 109) rfl)
   apply wp_skip
   refine p_norm ?_
   apply wp_seq
   apply wp_block
   apply wp_seq
   obtain ⟨x73, hx73, hg⟩ := bind_some hg
   obtain ⟨x76, hx76, hg⟩ := bind_some hg
   refine d_plan hS [] [(0, some 0), (1, some 1000), (2, some 0), (3, some 0), (4, some 0), (5, some 0), (6, some 0), (7, some 0), (8, some 0)] rfl (by kernel_rfl) (by kernel_rfl) rfl ?_; clear hS; intro wr hZ hS; have hR := hS.wd
   refine q_take hS hR rfl rfl rfl rfl (y_boxField (o' := 2) hS rfl Try.underlying26 rfl rfl rfl) fun a hS => ?_
   refine q_take hS hR rfl rfl rfl rfl (y_loadBox1 (kk := 1000) hS rfl rfl rfl Try.underlying22 rfl) fun a hS => ?_
   refine q_take hS hR rfl rfl rfl rfl (y_move hS rfl) fun a hS => ?_
   refine q_take hS hR rfl rfl rfl rfl (y_move hS rfl) fun a hS => ?_
   obtain ⟨p78, hep78, hpp78⟩ := SlR.elemX (hS.fact (k := 109) rfl) hx73
   refine q_take hS hR rfl rfl rfl rfl (y_elem (sz := 1) (i := t_69) hS rfl rfl Try.underlying33 rfl hep78 rfl (lt_of_get hx73)) fun a hS => ?_
   obtain ⟨hlq79, hmq79, csq79, hdq79, hcq79⟩ := hpp78
   obtain rfl := hdq79
   refine q_take hS hR rfl rfl rfl rfl (y_ldp1 hS rfl hlq79 hmq79 (hcq79 0 _ rfl) Try.underlying3 rfl) fun a hS => ?_
   obtain ⟨p80, hep80, hpp80⟩ := SlR.elemX (hS.fact (k := 101) rfl) (ix_some hx76).1
   refine q_take hS hR rfl rfl rfl rfl (y_elem (sz := 1) (i := ((x73).toNat)) hS rfl rfl Try.underlying22 rfl hep80 (ix_some hx76).2.1 (lt_of_get (ix_some hx76).1)) fun a hS => ?_
   obtain ⟨hlq81, hmq81, csq81, hdq81, hcq81⟩ := hpp80
   obtain ⟨rfl, lq811⟩ := hdq81
   refine q_take hS hR rfl rfl rfl rfl (y_ldp1 hS rfl hlq81 hmq81 (hcq81 0 _ rfl) Try.underlying9 rfl) fun a hS => ?_
   refine q_take hS hR rfl rfl rfl rfl (y_sne hS rfl rfl) fun a hS => ?_
   clear hR hZ
   refine p_norm ?_
   refine c_dec hS rfl (fun hc82 => ?_) (fun hc82 => ?_)
   ·replace hg := br_t hg hc82
    apply wR
    refine qq hS rfl (y_assign hS rfl) fun a hS => ?_
    apply wN
    apply wp_ret
    refine p_inR ?_
    refine p_thenR ?_
    refine p_thenR ?_
    refine p_inR ?_
    refine p_thenR ?_
    obtain rfl := Option.some.inj hg
    refine fin1 (fn := Try.f33) hS rfl (r_tmp hS rfl) ?_
    exact rfl
   ·replace hg := br_f hg hc82
    apply wp_skip
    refine p_inN ?_
    refine p_norm ?_
    apply wp_region_lit
    refine qq hS rfl (y_move hS rfl) fun a hS => ?_
    refine qq hS rfl (y_addN (i := t_69) (j := 1) hS rfl rfl (in64.2 (by omega))) fun a hS => ?_
    refine qq hS rfl (y_assign hS rfl) fun a hS => ?_
    apply wN
    exact ⟨m4, Nat.lt_succ_self _, ⟨(t_69 + 1), hg, (hS.sb rfl rfl rfl)⟩⟩
  ·replace hg := br_f hg hc70
   apply wp_exit
   refine p_then ?_
   refine p_then ?_
   refine p_in ?_
   refine p_norm ?_
   apply wR
   refine qq hS rfl (y_assign hS rfl) fun a hS => ?_
   apply wN
   apply wp_ret
   obtain rfl := Option.some.inj hg
   refine fin1 (fn := Try.f33) hS rfl (r_tmp hS rfl) ?_
   exact rfl
set_option maxHeartbeats 400000 in
theorem c_r39_place (n : Nat) (M : Bs) (w0 : World) (hM : ∀ b, M b → b < w0.heap.size) (l_ : (List Int)) (Ap01 : Option Addr) (cp01 : Nat) (hp01 : SlR (Rep.num .i64) M w0 Ap01 (l_).length cp01 (l_)) (n_ : Int) (r : Int) (hg : r39_place n l_ n_ = some r) :
    Calls Try.prog 56 [.slice (Ap01) ((l_).length) (cp01), .int .i64 (n_)].toArray w0 (Ret noB w0 fun v w => v = .int .i64 (r)) := by
 unfold r39_place at hg
 refine enter M noB Try.func56 rfl rfl hM ?_
 intro a hS
 replace hS := hS.es 101 hp01
 apply wR
 refine qq hS rfl (y_assign hS rfl) fun a hS => ?_
 apply wN
 apply wp_seq
 apply wR
 refine qq hS rfl (y_assign hS rfl) fun a hS => ?_
 apply wN
 apply wp_block
 refine c_loop (σ := Nat) (fun m1 a w => ∃ (i_1 : Nat), r39_place_L0 n l_ n_ m1 i_1 = some r ∧ St (⟨Try.f56.ntmps, M, noB, w0⟩ : Ctx) [(0, .slice (Ap01) ((l_).length) (cp01)), (1, .int .i64 (n_)), (5, .int .i64 (((i_1 : Nat) : Int)))] [] [(101, slF (Rep.num .i64) (Ap01) ((l_).length) (cp01) (l_))] a w) (fun m1 => m1) n ⟨(0), hg, (hS.sb rfl rfl rfl)⟩ ?_
 clear hS a; rintro m1 a w ⟨i_1, hg, hS⟩
 rcases m1 with _ | m1
 ·rw [r39_place_L0] at hg; cases hg
 rw [r39_place_L0] at hg
 apply wp_seq
 apply wR
 refine qq hS rfl (y_move hS rfl) fun a hS => ?_
 refine qq hS rfl (y_move hS rfl) fun a hS => ?_
 refine qq hS rfl (y_lenSlice hS rfl Try.underlying33) fun a hS => ?_
 refine qq hS rfl (y_lssN (i := i_1) (j := ((l_).length)) hS rfl rfl) fun a hS => ?_
 apply wN
 refine c_dec hS rfl (fun hc2 => ?_) (fun hc2 => ?_)
 ·replace hg := br_t hg hc2
  have hmx3 := SlR.mx (hS.fact (k := 101) rfl)
  apply wp_skip
  refine p_norm ?_
  apply wp_seq
  apply wp_block
  apply wp_seq
  obtain ⟨x5, hx5, hg⟩ := bind_some hg
  apply wp_region_lit
  refine qq hS rfl (y_move hS rfl) fun a hS => ?_
  refine qq hS rfl (y_move hS rfl) fun a hS => ?_
  obtain ⟨p7, hep7, hpp7⟩ := SlR.elemX (hS.fact (k := 101) rfl) hx5
  refine qq hS rfl (y_elem (sz := 1) (i := i_1) hS rfl rfl Try.underlying33 rfl hep7 rfl (lt_of_get hx5)) fun a hS => ?_
  obtain ⟨hlq8, hmq8, csq8, hdq8, hcq8⟩ := hpp7
  obtain rfl := hdq8
  refine qq hS rfl (y_ldp1 hS rfl hlq8 hmq8 (hcq8 0 _ rfl) Try.underlying3 rfl) fun a hS => ?_
  refine qq hS rfl (y_move hS rfl) fun a hS => ?_
  refine qq hS rfl (y_eql hS rfl rfl) fun a hS => ?_
  apply wN
  refine c_dec hS rfl (fun hc9 => ?_) (fun hc9 => ?_)
  ·replace hg := br_t hg hc9
   apply wR
   refine qq hS rfl (y_move hS rfl) fun a hS => ?_
   refine qq hS rfl (y_assign hS rfl) fun a hS => ?_
   apply wN
   apply wp_ret
   refine p_inR ?_
   refine p_thenR ?_
   refine p_thenR ?_
   refine p_inR ?_
   refine p_thenR ?_
   obtain rfl := Option.some.inj hg
   refine fin1 (fn := Try.f56) hS rfl (r_tmp hS rfl) ?_
   exact rfl
  ·replace hg := br_f hg hc9
   apply wp_skip
   refine p_inN ?_
   refine p_norm ?_
   apply wp_region_lit
   refine qq hS rfl (y_move hS rfl) fun a hS => ?_
   refine qq hS rfl (y_addN (i := i_1) (j := 1) hS rfl rfl (in64.2 (by omega))) fun a hS => ?_
   refine qq hS rfl (y_assign hS rfl) fun a hS => ?_
   apply wN
   exact ⟨m1, Nat.lt_succ_self _, ⟨(i_1 + 1), hg, (hS.sb rfl rfl rfl)⟩⟩
 ·replace hg := br_f hg hc2
  apply wp_exit
  refine p_then ?_
  refine p_then ?_
  refine p_in ?_
  refine p_norm ?_
  apply wR
  refine qq hS rfl (y_assign hS rfl) fun a hS => ?_
  apply wN
  apply wp_ret
  obtain rfl := Option.some.inj hg
  refine fin1 (fn := Try.f56) hS rfl (r_tmp hS rfl) ?_
  exact rfl
set_option maxHeartbeats 400000 in
theorem c_r39_firsts (n : Nat) (M : Bs) (w0 : World) (hM : ∀ b, M b → b < w0.heap.size) (m_ : MRS) (Ap03 : Option Addr) (cp03 : Nat) (Ap04 : Option Addr) (cp04 : Nat) (Ap05 : Option Addr) (cp05 : Nat) (hp03 : SlR Rep.str M w0 Ap03 (m_.Vars).length cp03 (m_.Vars)) (hp04 : SlR REP M w0 Ap04 (m_.Rels).length cp04 (m_.Rels)) (hp05 : SlR RQeq M w0 Ap05 (m_.Cons).length cp05 (m_.Cons)) (r : (List Int)) (hg : r39_firsts n m_ = some r) :
    Calls Try.prog 34 [.agg #[.int .i64 (m_.Top), .int .i64 (m_.Index), .slice (Ap03) ((m_.Vars).length) (cp03), .slice (Ap04) ((m_.Rels).length) (cp04), .slice (Ap05) ((m_.Cons).length) (cp05)]].toArray w0 (Ret noB w0 fun v w => ∃ (Aa1 : Option Addr), ∃ (ca1 : Nat), v = .slice (Aa1) ((r).length) (ca1) ∧ (SlR (Rep.num .i64) M w Aa1 (r).length ca1 (r))) := by
 unfold r39_firsts at hg
 refine enter M noB Try.func34 rfl rfl hM ?_
 intro a hS
 replace hS := hS.es 101 hp03
 replace hS := hS.es 102 hp04
 replace hS := hS.es 103 hp05
 apply wR
 refine l_seq rfl (l_box (zs := [.int .i64 (m_.Top), .int .i64 (m_.Index), .slice (Ap03) ((m_.Vars).length) (cp03), .slice (Ap04) ((m_.Rels).length) (cp04), .slice (Ap05) ((m_.Cons).length) (cp05)]) hS 1000 rfl rfl rfl rfl ?_); clear hS a; intro b2 a w hb hK hS
 clear hb hK
 refine qq hS rfl (y_assign hS rfl) fun a hS => ?_
 apply wN
 apply wp_seq
 obtain ⟨r3, hr3, hg⟩ := bind_some hg
 apply wp_region_lit
 refine qq hS rfl (y_loadBox (kk := 1000) (n := 5) (vs := [.int .i64 (m_.Top), .int .i64 (m_.Index), .slice (Ap03) ((m_.Vars).length) (cp03), .slice (Ap04) ((m_.Rels).length) (cp04), .slice (Ap05) ((m_.Cons).length) (cp05)]) hS rfl rfl Try.underlying26 rfl rfl rfl rfl) fun a hS => ?_
 refine l_seq rfl (l_call (cap := []) hS rfl Try.func54 rfl (by kernel_rfl) rfl rfl (c_r39_Occurrences n _ _ hS.lt m_ (Ap03) (cp03) (Ap04) (cp04) (Ap05) (cp05) (hS.fact (k := 101) rfl) (hS.fact (k := 102) rfl) (hS.fact (k := 103) rfl) r3 hr3) ?_); clear hS a; intro v6 a w hK hp hS
 clear hK
 obtain ⟨Au7a1, cu7a1, rfl, hu7a1⟩ := hp
 replace hS := hS.add 105 (slF (Rep.num .i64) (Au7a1) ((r3).length) (cu7a1) (r3)) hu7a1
 refine qq hS rfl (y_assign hS rfl) fun a hS => ?_
 apply wN
 apply wR
 refine l_seq rfl (l_buildEmpty (sz := 1) hS 1200 Try.underlying33 rfl rfl rfl ?_); clear hS a; intro b9 a w hbb9 hK hS
 clear hbb9 hK
 refine qq hS rfl (y_assign hS rfl) fun a hS => ?_
 apply wN
 apply wp_seq
 apply wR
 refine qq hS rfl (y_assign hS rfl) fun a hS => ?_
 apply wN
 apply wp_block
 replace hS := hS.add 108 (rdF (Rep.num .i64) ([]) ([])) (RdAll.nil _ _ _)
 replace hS := hS.al 107 108 rfl
 replace hS := hS.pk [(1000, 1000), (700106, 1200)] (by decide)
 refine c_loop (σ := Nat) (fun m1 a w => ∃ (out_10 : (List Int)), ∃ (i_14 : Nat), ∃ (A11 : Option Addr), ∃ (c12 : Nat), ∃ (cs13 : List Value), r39_firsts_L0 n r3 m1 out_10 i_14 = some r ∧ St (⟨Try.f34.ntmps, M, noB, w0⟩ : Ctx) [(3, .slice (Au7a1) ((r3).length) (cu7a1)), (4, .slice (A11) ((out_10).length) (c12)), (5, .int .i64 (((i_14 : Nat) : Int)))] [(700106, Ob.row (A11) ((out_10).length) (c12) 3 1 (cs13))] [(105, slF (Rep.num .i64) (Au7a1) ((r3).length) (cu7a1) (r3)), (107, rdF (Rep.num .i64) (cs13) (out_10))] a w) (fun m1 => m1) n ⟨([]), (0), (some ⟨b9, 0, none⟩), (0), ([]), hg, (hS.sb rfl rfl rfl)⟩ ?_
 clear hS a; rintro m1 a w ⟨out_10, i_14, A11, c12, cs13, hg, hS⟩
 rcases m1 with _ | m1
 ·rw [r39_firsts_L0] at hg; cases hg
 rw [r39_firsts_L0] at hg
 apply wp_seq
 apply wR
 refine qq hS rfl (y_move hS rfl) fun a hS => ?_
 refine qq hS rfl (y_move hS rfl) fun a hS => ?_
 refine qq hS rfl (y_lenSlice hS rfl Try.underlying33) fun a hS => ?_
 refine qq hS rfl (y_lssN (i := i_14) (j := ((r3).length)) hS rfl rfl) fun a hS => ?_
 apply wN
 refine c_dec hS rfl (fun hc15 => ?_) (fun hc15 => ?_)
 ·replace hg := br_t hg hc15
  have hmx16 := SlR.mx (hS.fact (k := 105) rfl)
  apply wp_skip
  refine p_norm ?_
  apply wp_seq
  apply wp_block
  apply wp_seq
  obtain ⟨x18, hx18, hg⟩ := bind_some hg
  obtain ⟨r20, hr20, hg⟩ := bind_some hg
  apply wp_region_lit
  refine qq hS rfl (y_move hS rfl) fun a hS => ?_
  refine qq hS rfl (y_move hS rfl) fun a hS => ?_
  refine qq hS rfl (y_move hS rfl) fun a hS => ?_
  obtain ⟨p23, hep23, hpp23⟩ := SlR.elemX (hS.fact (k := 105) rfl) hx18
  refine qq hS rfl (y_elem (sz := 1) (i := i_14) hS rfl rfl Try.underlying33 rfl hep23 rfl (lt_of_get hx18)) fun a hS => ?_
  obtain ⟨hlq24, hmq24, csq24, hdq24, hcq24⟩ := hpp23
  obtain rfl := hdq24
  refine qq hS rfl (y_ldp1 hS rfl hlq24 hmq24 (hcq24 0 _ rfl) Try.underlying3 rfl) fun a hS => ?_
  have hT := hS
  replace hT := hT.fz (R := (Rep.num .i64)) (kk := 700106) [] 110 rfl rfl (hT.fact (k := 107) rfl) rfl
  refine l_seq rfl (l_call (cap := []) hS rfl Try.func56 rfl (by kernel_rfl) rfl rfl (c_r39_place n _ _ hT.lt out_10 (A11) (c12) (hT.fact (k := 110) rfl) x18 r20 hr20) ?_); clear hS hT a; intro v25 a w hK hp hS
  clear hK
  obtain rfl := hp
  refine qq hS rfl (y_lss hS rfl rfl) fun a hS => ?_
  apply wN
  refine c_dec hS rfl (fun hc27 => ?_) (fun hc27 => ?_)
  ·replace hg := br_t hg hc27
   obtain ⟨hk31, hg⟩ := chk_some hg
   apply wp_region_lit
   refine qq hS rfl (y_move hS rfl) fun a hS => ?_
   refine qq hS rfl (y_move hS rfl) fun a hS => ?_
   refine qq hS rfl (y_move hS rfl) fun a hS => ?_
   obtain ⟨p34, hep34, hpp34⟩ := SlR.elemX (hS.fact (k := 105) rfl) hx18
   refine qq hS rfl (y_elem (sz := 1) (i := i_14) hS rfl rfl Try.underlying33 rfl hep34 rfl (lt_of_get hx18)) fun a hS => ?_
   obtain ⟨hlq35, hmq35, csq35, hdq35, hcq35⟩ := hpp34
   obtain rfl := hdq35
   refine qq hS rfl (y_ldp1 hS rfl hlq35 hmq35 (hcq35 0 _ rfl) Try.underlying3 rfl) fun a hS => ?_
   refine l_seq rfl (l_buildDense (sz := 1) hS 1705 rfl rfl rfl Try.underlying33 rfl rfl rfl rfl rfl rfl rfl ?_); clear hS a; intro b36 a w hbb36 hK hS
   clear hbb36 hK
   replace hS := hS.add 113 (rdF (Rep.num .i64) (cellsOfL [.int .i64 (x18)]) ([x18])) (RdAll.cons (by exact rfl) (RdAll.nil _ _ _))
   have hs38 := row_src (hS.wd.holds 1705 _ rfl) (RdAll.one (hS.fact (k := 113) rfl))
   refine l_seq rfl (l_append (sz := 1) (by_ := 8) (N := (out_10 ++ [x18]).length) (ys := cs13 ++ (cellsOfL [.int .i64 (x18)])) hS 700106 rfl rfl rfl Try.underlying33 rfl rfl rfl rfl rfl hs38 (by simp) rfl (by have hr := hk31; clear hg; first | omega | (simp only [List.length_append, List.length_cons, List.length_nil] at hr ⊢; omega) | (simp at hr ⊢; omega)) (by have hr := hk31; clear hg; first | omega | (simp only [List.length_append, List.length_cons, List.length_nil] at hr ⊢; omega) | (simp at hr ⊢; omega)) rfl ?_); clear hS a; intro Aq37 cq37 a w hA hK hS
   clear hK hA
   replace hS := hS.add 114 (rdF (Rep.num .i64) (cs13 ++ (cellsOfL [.int .i64 (x18)])) (out_10 ++ [x18])) (RdAll.append (hS.fact (k := 107) rfl) (hS.fact (k := 113) rfl))
   refine qq hS rfl (y_assign hS rfl) fun a hS => ?_
   apply wpList_nil
   refine p_inN ?_
   refine p_norm ?_
   apply wp_region_lit
   refine qq hS rfl (y_move hS rfl) fun a hS => ?_
   refine qq hS rfl (y_addN (i := i_14) (j := 1) hS rfl rfl (in64.2 (by omega))) fun a hS => ?_
   refine qq hS rfl (y_assign hS rfl) fun a hS => ?_
   apply wN
   replace hS := hS.al 107 114 rfl
   exact ⟨m1, Nat.lt_succ_self _, ⟨(out_10 ++ [x18]), (i_14 + 1), (Aq37), (cq37), (cs13 ++ (cellsOfL [.int .i64 (x18)])), hg, (hS.sb rfl rfl rfl)⟩⟩
  ·replace hg := br_f hg hc27
   apply wp_skip
   refine p_inN ?_
   refine p_norm ?_
   apply wp_region_lit
   refine qq hS rfl (y_move hS rfl) fun a hS => ?_
   refine qq hS rfl (y_addN (i := i_14) (j := 1) hS rfl rfl (in64.2 (by omega))) fun a hS => ?_
   refine qq hS rfl (y_assign hS rfl) fun a hS => ?_
   apply wN
   replace hS := hS.al 107 107 rfl
   exact ⟨m1, Nat.lt_succ_self _, ⟨(out_10), (i_14 + 1), (A11), (c12), (cs13), hg, (hS.sb rfl rfl rfl)⟩⟩
 ·replace hg := br_f hg hc15
  apply wp_exit
  refine p_then ?_
  refine p_then ?_
  refine p_in ?_
  refine p_norm ?_
  apply wR
  refine qq hS rfl (y_move hS rfl) fun a hS => ?_
  refine qq hS rfl (y_assign hS rfl) fun a hS => ?_
  apply wN
  apply wp_ret
  obtain rfl := Option.some.inj hg
  refine fin1 (fn := Try.f34) hS rfl (r_tmp hS rfl) ?_
  exact ⟨(A11), (c12), rfl, (hS.rowOut (R := (Rep.num .i64)) (kk := 700106) rfl rfl (hS.fact (k := 107) rfl))⟩
set_option maxHeartbeats 400000 in
theorem c_r39_Check (n : Nat) (M : Bs) (w0 : World) (hM : ∀ b, M b → b < w0.heap.size) (m_ : MRS) (Ap03 : Option Addr) (cp03 : Nat) (Ap04 : Option Addr) (cp04 : Nat) (Ap05 : Option Addr) (cp05 : Nat) (hp03 : SlR Rep.str M w0 Ap03 (m_.Vars).length cp03 (m_.Vars)) (hp04 : SlR REP M w0 Ap04 (m_.Rels).length cp04 (m_.Rels)) (hp05 : SlR RQeq M w0 Ap05 (m_.Cons).length cp05 (m_.Cons)) (r : Int) (hg : r39_Check n m_ = some r) :
    Calls Try.prog 18 [.agg #[.int .i64 (m_.Top), .int .i64 (m_.Index), .slice (Ap03) ((m_.Vars).length) (cp03), .slice (Ap04) ((m_.Rels).length) (cp04), .slice (Ap05) ((m_.Cons).length) (cp05)]].toArray w0 (Ret noB w0 fun v w => v = .int .i64 (r)) := by
 unfold r39_Check at hg
 refine enter M noB Try.func18 rfl rfl hM ?_
 intro a hS
 replace hS := hS.es 101 hp03
 replace hS := hS.es 102 hp04
 replace hS := hS.es 103 hp05
 apply wR
 refine l_seq rfl (l_box (zs := [.int .i64 (m_.Top), .int .i64 (m_.Index), .slice (Ap03) ((m_.Vars).length) (cp03), .slice (Ap04) ((m_.Rels).length) (cp04), .slice (Ap05) ((m_.Cons).length) (cp05)]) hS 1000 rfl rfl rfl rfl ?_); clear hS a; intro b2 a w hb hK hS
 clear hb hK
 refine qq hS rfl (y_assign hS rfl) fun a hS => ?_
 apply wN
 apply wp_seq
 apply wp_seq
 obtain ⟨r3, hr3, hg⟩ := bind_some hg
 apply wp_region_lit
 refine qq hS rfl (y_loadBox (kk := 1000) (n := 5) (vs := [.int .i64 (m_.Top), .int .i64 (m_.Index), .slice (Ap03) ((m_.Vars).length) (cp03), .slice (Ap04) ((m_.Rels).length) (cp04), .slice (Ap05) ((m_.Cons).length) (cp05)]) hS rfl rfl Try.underlying26 rfl rfl rfl rfl) fun a hS => ?_
 refine l_seq rfl (l_call (cap := []) hS rfl Try.func33 rfl (by kernel_rfl) rfl rfl (c_r39_Loose n _ _ hS.lt m_ (Ap03) (cp03) (Ap04) (cp04) (Ap05) (cp05) (hS.fact (k := 101) rfl) (hS.fact (k := 102) rfl) (hS.fact (k := 103) rfl) r3 hr3) ?_); clear hS a; intro v6 a w hK hp hS
 clear hK
 obtain rfl := hp
 refine qq hS rfl (y_assign hS rfl) fun a hS => ?_
 apply wN
 apply wR
 refine qq hS rfl (y_move hS rfl) fun a hS => ?_
 refine qq hS rfl (y_neq hS rfl rfl) fun a hS => ?_
 apply wN
 refine c_dec hS rfl (fun hc8 => ?_) (fun hc8 => ?_)
 ·replace hg := br_t hg hc8
  apply wR
  refine qq hS rfl (y_move hS rfl) fun a hS => ?_
  refine qq hS rfl (y_assign hS rfl) fun a hS => ?_
  apply wN
  apply wp_ret
  refine p_thenR ?_
  obtain rfl := Option.some.inj hg
  refine fin1 (fn := Try.f18) hS rfl (r_tmp hS rfl) ?_
  exact rfl
 ·replace hg := br_f hg hc8
  apply wp_skip
  refine p_norm ?_
  apply wp_seq
  obtain ⟨r9, hr9, hg⟩ := bind_some hg
  apply wp_region_lit
  refine qq hS rfl (y_loadBox (kk := 1000) (n := 5) (vs := [.int .i64 (m_.Top), .int .i64 (m_.Index), .slice (Ap03) ((m_.Vars).length) (cp03), .slice (Ap04) ((m_.Rels).length) (cp04), .slice (Ap05) ((m_.Cons).length) (cp05)]) hS rfl rfl Try.underlying26 rfl rfl rfl rfl) fun a hS => ?_
  refine l_seq rfl (l_call (cap := []) hS rfl Try.func34 rfl (by kernel_rfl) rfl rfl (c_r39_firsts n _ _ hS.lt m_ (Ap03) (cp03) (Ap04) (cp04) (Ap05) (cp05) (hS.fact (k := 101) rfl) (hS.fact (k := 102) rfl) (hS.fact (k := 103) rfl) r9 hr9) ?_); clear hS a; intro v12 a w hK hp hS
  clear hK
  obtain ⟨Au13a1, cu13a1, rfl, hu13a1⟩ := hp
  replace hS := hS.add 105 (slF (Rep.num .i64) (Au13a1) ((r9).length) (cu13a1) (r9)) hu13a1
  refine qq hS rfl (y_assign hS rfl) fun a hS => ?_
  apply wN
  apply wp_seq
  apply wR
  refine qq hS rfl (y_move hS rfl) fun a hS => ?_
  refine qq hS rfl (y_lenSlice hS rfl Try.underlying33) fun a hS => ?_
  refine qq hS rfl (y_boxField (o' := 2) hS rfl Try.underlying26 rfl rfl rfl) fun a hS => ?_
  refine qq hS rfl (y_loadBox1 (kk := 1000) hS rfl rfl rfl Try.underlying22 rfl) fun a hS => ?_
  refine qq hS rfl (y_lenSlice hS rfl Try.underlying22) fun a hS => ?_
  refine qq hS rfl (y_neqN (i := ((r9).length)) (j := ((m_.Vars).length)) hS rfl rfl) fun a hS => ?_
  apply wN
  refine c_dec hS rfl (fun hc14 => ?_) (fun hc14 => ?_)
  ·replace hg := br_t hg hc14
   apply wR
   refine qq hS rfl (y_assign hS rfl) fun a hS => ?_
   apply wN
   apply wp_ret
   refine p_thenR ?_
   obtain rfl := Option.some.inj hg
   refine fin1 (fn := Try.f18) hS rfl (r_tmp hS rfl) ?_
   exact rfl
  ·replace hg := br_f hg hc14
   apply wp_skip
   refine p_norm ?_
   apply wp_seq
   apply wR
   refine qq hS rfl (y_assign hS rfl) fun a hS => ?_
   apply wN
   apply wp_block
   refine c_loop (σ := Nat) (fun m1 a w => ∃ (i_15 : Nat), r39_Check_L0 n r9 m1 i_15 = some r ∧ St (⟨Try.f18.ntmps, M, noB, w0⟩ : Ctx) [(4, .slice (Au13a1) ((r9).length) (cu13a1)), (5, .int .i64 (((i_15 : Nat) : Int)))] [] [(105, slF (Rep.num .i64) (Au13a1) ((r9).length) (cu13a1) (r9))] a w) (fun m1 => m1) n ⟨(0), hg, (hS.sb rfl rfl rfl)⟩ ?_
   clear hS a; rintro m1 a w ⟨i_15, hg, hS⟩
   rcases m1 with _ | m1
   ·rw [r39_Check_L0] at hg; cases hg
   rw [r39_Check_L0] at hg
   apply wp_seq
   apply wR
   refine qq hS rfl (y_move hS rfl) fun a hS => ?_
   refine qq hS rfl (y_move hS rfl) fun a hS => ?_
   refine qq hS rfl (y_lenSlice hS rfl Try.underlying33) fun a hS => ?_
   refine qq hS rfl (y_lssN (i := i_15) (j := ((r9).length)) hS rfl rfl) fun a hS => ?_
   apply wN
   refine c_dec hS rfl (fun hc16 => ?_) (fun hc16 => ?_)
   ·replace hg := br_t hg hc16
    have hmx17 := SlR.mx (hS.fact (k := 105) rfl)
    apply wp_skip
    refine p_norm ?_
    apply wp_seq
    apply wp_block
    apply wp_seq
    obtain ⟨x19, hx19, hg⟩ := bind_some hg
    apply wp_region_lit
    refine qq hS rfl (y_move hS rfl) fun a hS => ?_
    refine qq hS rfl (y_move hS rfl) fun a hS => ?_
    obtain ⟨p21, hep21, hpp21⟩ := SlR.elemX (hS.fact (k := 105) rfl) hx19
    refine qq hS rfl (y_elem (sz := 1) (i := i_15) hS rfl rfl Try.underlying33 rfl hep21 rfl (lt_of_get hx19)) fun a hS => ?_
    obtain ⟨hlq22, hmq22, csq22, hdq22, hcq22⟩ := hpp21
    obtain rfl := hdq22
    refine qq hS rfl (y_ldp1 hS rfl hlq22 hmq22 (hcq22 0 _ rfl) Try.underlying3 rfl) fun a hS => ?_
    refine qq hS rfl (y_move hS rfl) fun a hS => ?_
    refine qq hS rfl (y_neq hS rfl rfl) fun a hS => ?_
    apply wN
    refine c_dec hS rfl (fun hc23 => ?_) (fun hc23 => ?_)
    ·replace hg := br_t hg hc23
     apply wR
     refine qq hS rfl (y_assign hS rfl) fun a hS => ?_
     apply wN
     apply wp_ret
     refine p_inR ?_
     refine p_thenR ?_
     refine p_thenR ?_
     refine p_inR ?_
     refine p_thenR ?_
     obtain rfl := Option.some.inj hg
     refine fin1 (fn := Try.f18) hS rfl (r_tmp hS rfl) ?_
     exact rfl
    ·replace hg := br_f hg hc23
     apply wp_skip
     refine p_inN ?_
     refine p_norm ?_
     apply wp_region_lit
     refine qq hS rfl (y_move hS rfl) fun a hS => ?_
     refine qq hS rfl (y_addN (i := i_15) (j := 1) hS rfl rfl (in64.2 (by omega))) fun a hS => ?_
     refine qq hS rfl (y_assign hS rfl) fun a hS => ?_
     apply wN
     exact ⟨m1, Nat.lt_succ_self _, ⟨(i_15 + 1), hg, (hS.sb rfl rfl rfl)⟩⟩
   ·replace hg := br_f hg hc16
    apply wp_exit
    refine p_then ?_
    refine p_then ?_
    refine p_in ?_
    refine p_norm ?_
    apply wR
    refine qq hS rfl (y_assign hS rfl) fun a hS => ?_
    apply wN
    apply wp_ret
    obtain rfl := Option.some.inj hg
    refine fin1 (fn := Try.f18) hS rfl (r_tmp hS rfl) ?_
    exact rfl
set_option maxHeartbeats 400000 in
theorem c_r39_Light (n : Nat) (M : Bs) (w0 : World) (hM : ∀ b, M b → b < w0.heap.size) (m_ : MRS) (Ap03 : Option Addr) (cp03 : Nat) (Ap04 : Option Addr) (cp04 : Nat) (Ap05 : Option Addr) (cp05 : Nat) (hp03 : SlR Rep.str M w0 Ap03 (m_.Vars).length cp03 (m_.Vars)) (hp04 : SlR REP M w0 Ap04 (m_.Rels).length cp04 (m_.Rels)) (hp05 : SlR RQeq M w0 Ap05 (m_.Cons).length cp05 (m_.Cons)) (most_ : Int) (r : Bool) (hg : r39_Light n m_ most_ = some r) :
    Calls Try.prog 19 [.agg #[.int .i64 (m_.Top), .int .i64 (m_.Index), .slice (Ap03) ((m_.Vars).length) (cp03), .slice (Ap04) ((m_.Rels).length) (cp04), .slice (Ap05) ((m_.Cons).length) (cp05)], .int .i64 (most_)].toArray w0 (Ret noB w0 fun v w => v = .bool (r)) := by
 unfold r39_Light at hg
 refine enter M noB Try.func19 rfl rfl hM ?_
 intro a hS
 replace hS := hS.es 101 hp03
 replace hS := hS.es 102 hp04
 replace hS := hS.es 103 hp05
 apply wR
 refine l_seq rfl (l_box (zs := [.int .i64 (m_.Top), .int .i64 (m_.Index), .slice (Ap03) ((m_.Vars).length) (cp03), .slice (Ap04) ((m_.Rels).length) (cp04), .slice (Ap05) ((m_.Cons).length) (cp05)]) hS 1000 rfl rfl rfl rfl ?_); clear hS a; intro b2 a w hb hK hS
 clear hb hK
 refine qq hS rfl (y_assign hS rfl) fun a hS => ?_
 apply wN
 apply wp_seq
 apply wp_seq
 obtain ⟨k3, hg, hk3⟩ := jn_some hg
 refine c_post (fun a w => ∃ (t_4 : Bool), k3 t_4 = some r ∧ St (⟨Try.f19.ntmps, M, noB, w0⟩ : Ctx) [(2, .pointer (some ⟨b2, 0, none⟩)), (23, .bool (t_4))] [(1000, Ob.box b2 [.int .i64 (m_.Top), .int .i64 (m_.Index), .slice (Ap03) ((m_.Vars).length) (cp03), .slice (Ap04) ((m_.Rels).length) (cp04), .slice (Ap05) ((m_.Cons).length) (cp05)] 26)] [(101, slF Rep.str (Ap03) ((m_.Vars).length) (cp03) (m_.Vars)), (102, slF REP (Ap04) ((m_.Rels).length) (cp04) (m_.Rels)), (103, slF RQeq (Ap05) ((m_.Cons).length) (cp05) (m_.Cons))] a w) ?_ ?_
 ·rcases Decidable.em (most_ < (((m_.Rels).length : Nat) : Int)) with hs5 | hs5
  ·have hs5e : decide (most_ < (((m_.Rels).length : Nat) : Int)) = true := decide_eq_true hs5
   replace hg := br_t hg hs5
   apply wp_region_lit
   refine qq hS rfl (y_boxField (o' := 3) hS rfl Try.underlying26 rfl rfl rfl) fun a hS => ?_
   refine qq hS rfl (y_loadBox1 (kk := 1000) hS rfl rfl rfl Try.underlying23 rfl) fun a hS => ?_
   refine qq hS rfl (y_lenSlice hS rfl Try.underlying23) fun a hS => ?_
   refine qq hS rfl (y_move hS rfl) fun a hS => ?_
   refine qq hS rfl (yl_b (y_gtr hS rfl rfl) hs5e) fun a hS => ?_
   refine qq hS rfl (y_move hS rfl) fun a hS => ?_
   refine gn hS rfl fun a hS => ?_
   refine gn hS rfl fun a hS => ?_
   refine gn hS rfl fun a hS => ?_
   refine gn hS rfl fun a hS => ?_
   refine gn hS rfl fun a hS => ?_
   refine qq hS rfl (y_pick_t hS rfl rfl) fun a hS => ?_
   refine qq hS rfl (y_move hS rfl) fun a hS => ?_
   refine gn hS rfl fun a hS => ?_
   refine gn hS rfl fun a hS => ?_
   refine gn hS rfl fun a hS => ?_
   refine gn hS rfl fun a hS => ?_
   refine qq hS rfl (y_pick_t hS rfl rfl) fun a hS => ?_
   apply wN
   exact ⟨(true), hg, (hS.sb rfl rfl rfl)⟩
  ·have hs5e : decide (most_ < (((m_.Rels).length : Nat) : Int)) = false := decide_eq_false hs5
   replace hg := br_f hg hs5
   rcases Decidable.em (most_ < (((m_.Cons).length : Nat) : Int)) with hs6 | hs6
   ·have hs6e : decide (most_ < (((m_.Cons).length : Nat) : Int)) = true := decide_eq_true hs6
    replace hg := br_t hg hs6
    apply wp_region_lit
    refine qq hS rfl (y_boxField (o' := 3) hS rfl Try.underlying26 rfl rfl rfl) fun a hS => ?_
    refine qq hS rfl (y_loadBox1 (kk := 1000) hS rfl rfl rfl Try.underlying23 rfl) fun a hS => ?_
    refine qq hS rfl (y_lenSlice hS rfl Try.underlying23) fun a hS => ?_
    refine qq hS rfl (y_move hS rfl) fun a hS => ?_
    refine qq hS rfl (yl_b (y_gtr hS rfl rfl) hs5e) fun a hS => ?_
    refine qq hS rfl (y_move hS rfl) fun a hS => ?_
    refine gy hS rfl (y_boxField (o' := 4) hS rfl Try.underlying26 rfl rfl rfl) fun a hS => ?_
    refine gy hS rfl (y_loadBox1 (kk := 1000) hS rfl rfl rfl Try.underlying24 rfl) fun a hS => ?_
    refine gy hS rfl (y_lenSlice hS rfl Try.underlying24) fun a hS => ?_
    refine gy hS rfl (y_move hS rfl) fun a hS => ?_
    refine gy hS rfl (yl_b (y_gtr hS rfl rfl) hs6e) fun a hS => ?_
    refine qq hS rfl (y_pick_f hS rfl rfl) fun a hS => ?_
    refine qq hS rfl (y_move hS rfl) fun a hS => ?_
    refine gn hS rfl fun a hS => ?_
    refine gn hS rfl fun a hS => ?_
    refine gn hS rfl fun a hS => ?_
    refine gn hS rfl fun a hS => ?_
    refine qq hS rfl (y_pick_t hS rfl rfl) fun a hS => ?_
    apply wN
    exact ⟨(true), hg, (hS.sb rfl rfl rfl)⟩
   ·have hs6e : decide (most_ < (((m_.Cons).length : Nat) : Int)) = false := decide_eq_false hs6
    replace hg := br_f hg hs6
    apply wp_region_lit
    refine qq hS rfl (y_boxField (o' := 3) hS rfl Try.underlying26 rfl rfl rfl) fun a hS => ?_
    refine qq hS rfl (y_loadBox1 (kk := 1000) hS rfl rfl rfl Try.underlying23 rfl) fun a hS => ?_
    refine qq hS rfl (y_lenSlice hS rfl Try.underlying23) fun a hS => ?_
    refine qq hS rfl (y_move hS rfl) fun a hS => ?_
    refine qq hS rfl (yl_b (y_gtr hS rfl rfl) hs5e) fun a hS => ?_
    refine qq hS rfl (y_move hS rfl) fun a hS => ?_
    refine gy hS rfl (y_boxField (o' := 4) hS rfl Try.underlying26 rfl rfl rfl) fun a hS => ?_
    refine gy hS rfl (y_loadBox1 (kk := 1000) hS rfl rfl rfl Try.underlying24 rfl) fun a hS => ?_
    refine gy hS rfl (y_lenSlice hS rfl Try.underlying24) fun a hS => ?_
    refine gy hS rfl (y_move hS rfl) fun a hS => ?_
    refine gy hS rfl (yl_b (y_gtr hS rfl rfl) hs6e) fun a hS => ?_
    refine qq hS rfl (y_pick_f hS rfl rfl) fun a hS => ?_
    refine qq hS rfl (y_move hS rfl) fun a hS => ?_
    refine gy hS rfl (y_boxField (o' := 2) hS rfl Try.underlying26 rfl rfl rfl) fun a hS => ?_
    refine gy hS rfl (y_loadBox1 (kk := 1000) hS rfl rfl rfl Try.underlying22 rfl) fun a hS => ?_
    refine gy hS rfl (y_lenSlice hS rfl Try.underlying22) fun a hS => ?_
    refine gy hS rfl (y_gtrN (i := ((m_.Vars).length)) (j := 300) hS rfl rfl) fun a hS => ?_
    refine qq hS rfl (y_pick_f hS rfl rfl) fun a hS => ?_
    apply wN
    exact ⟨(decide ((300 : Nat) < ((m_.Vars).length))), hg, (hS.sb rfl rfl rfl)⟩
 clear hS a; rintro a w ⟨t_4, hg, hS⟩
 subst hk3
 refine c_cond hS rfl (fun hc7 => ?_) (fun hc7 => ?_)
 ·replace hg := br_t hg hc7
  apply wR
  refine qq hS rfl (y_assign hS rfl) fun a hS => ?_
  apply wN
  apply wp_ret
  refine p_thenR ?_
  obtain rfl := Option.some.inj hg
  refine fin1 (fn := Try.f19) hS rfl (r_tmp hS rfl) ?_
  exact rfl
 ·replace hg := br_f hg (by rw [hc7]; exact Bool.false_ne_true)
  apply wp_skip
  refine p_norm ?_
  apply wp_seq
  apply wR
  refine qq hS rfl (y_assign hS rfl) fun a hS => ?_
  apply wN
  apply wp_block
  refine c_loop (σ := Nat) (fun m1 a w => ∃ (i_8 : Nat), r39_Light_L0 n m_ m1 i_8 = some r ∧ St (⟨Try.f19.ntmps, M, noB, w0⟩ : Ctx) [(2, .pointer (some ⟨b2, 0, none⟩)), (5, .int .i64 (((i_8 : Nat) : Int)))] [(1000, Ob.box b2 [.int .i64 (m_.Top), .int .i64 (m_.Index), .slice (Ap03) ((m_.Vars).length) (cp03), .slice (Ap04) ((m_.Rels).length) (cp04), .slice (Ap05) ((m_.Cons).length) (cp05)] 26)] [(101, slF Rep.str (Ap03) ((m_.Vars).length) (cp03) (m_.Vars)), (102, slF REP (Ap04) ((m_.Rels).length) (cp04) (m_.Rels)), (103, slF RQeq (Ap05) ((m_.Cons).length) (cp05) (m_.Cons))] a w) (fun m1 => m1) n ⟨(0), hg, (hS.sb rfl rfl rfl)⟩ ?_
  clear hS a; rintro m1 a w ⟨i_8, hg, hS⟩
  rcases m1 with _ | m1
  ·rw [r39_Light_L0] at hg; cases hg
  rw [r39_Light_L0] at hg
  apply wp_seq
  apply wR
  refine qq hS rfl (y_move hS rfl) fun a hS => ?_
  refine qq hS rfl (y_boxField (o' := 3) hS rfl Try.underlying26 rfl rfl rfl) fun a hS => ?_
  refine qq hS rfl (y_loadBox1 (kk := 1000) hS rfl rfl rfl Try.underlying23 rfl) fun a hS => ?_
  refine qq hS rfl (y_lenSlice hS rfl Try.underlying23) fun a hS => ?_
  refine qq hS rfl (y_lssN (i := i_8) (j := ((m_.Rels).length)) hS rfl rfl) fun a hS => ?_
  apply wN
  refine c_dec hS rfl (fun hc9 => ?_) (fun hc9 => ?_)
  ·replace hg := br_t hg hc9
   have hmx10 := SlR.mx (hS.fact (k := 102) rfl)
   apply wp_skip
   refine p_norm ?_
   apply wp_seq
   apply wp_block
   apply wp_seq
   obtain ⟨x12, hx12, hg⟩ := bind_some hg
   apply wp_region_lit
   refine qq hS rfl (y_boxField (o' := 3) hS rfl Try.underlying26 rfl rfl rfl) fun a hS => ?_
   refine qq hS rfl (y_loadBox1 (kk := 1000) hS rfl rfl rfl Try.underlying23 rfl) fun a hS => ?_
   refine qq hS rfl (y_move hS rfl) fun a hS => ?_
   obtain ⟨p14, hep14, hpp14⟩ := SlR.elemX (hS.fact (k := 102) rfl) hx12
   refine qq hS rfl (y_elem (sz := 3) (i := i_8) hS rfl rfl Try.underlying23 rfl hep14 rfl (lt_of_get hx12)) fun a hS => ?_
   refine qq hS rfl (y_ptrField (o' := 2) hS rfl Try.underlying55 rfl rfl rfl) fun a hS => ?_
   obtain ⟨hlq15, hmq15, csq15, hdq15, hcq15⟩ := hpp14
   obtain ⟨Aq153, cq153, rfl, lq151, hq153⟩ := REP.open hdq15
   replace hS := hS.add 105 (slF RArg (Aq153) ((x12.Args).length) (cq153) (x12.Args)) hq153
   refine qq hS rfl (y_ldp1 hS rfl hlq15 hmq15 (hcq15 2 _ rfl) Try.underlying53 rfl) fun a hS => ?_
   refine qq hS rfl (y_lenSlice hS rfl Try.underlying53) fun a hS => ?_
   refine qq hS rfl (y_gtrN (i := ((x12.Args).length)) (j := 10) hS rfl rfl) fun a hS => ?_
   apply wN
   refine c_dec hS rfl (fun hc16 => ?_) (fun hc16 => ?_)
   ·replace hg := br_t hg hc16
    have hmx17 := SlR.mx (hS.fact (k := 105) rfl)
    apply wR
    refine qq hS rfl (y_assign hS rfl) fun a hS => ?_
    apply wN
    apply wp_ret
    refine p_inR ?_
    refine p_thenR ?_
    refine p_thenR ?_
    refine p_inR ?_
    refine p_thenR ?_
    obtain rfl := Option.some.inj hg
    refine fin1 (fn := Try.f19) hS rfl (r_tmp hS rfl) ?_
    exact rfl
   ·replace hg := br_f hg hc16
    apply wp_skip
    refine p_inN ?_
    refine p_norm ?_
    apply wp_region_lit
    refine qq hS rfl (y_move hS rfl) fun a hS => ?_
    refine qq hS rfl (y_addN (i := i_8) (j := 1) hS rfl rfl (in64.2 (by omega))) fun a hS => ?_
    refine qq hS rfl (y_assign hS rfl) fun a hS => ?_
    apply wN
    exact ⟨m1, Nat.lt_succ_self _, ⟨(i_8 + 1), hg, (hS.sb rfl rfl rfl)⟩⟩
  ·replace hg := br_f hg hc9
   apply wp_exit
   refine p_then ?_
   refine p_then ?_
   refine p_in ?_
   refine p_norm ?_
   apply wR
   refine qq hS rfl (y_assign hS rfl) fun a hS => ?_
   apply wN
   apply wp_ret
   obtain rfl := Option.some.inj hg
   refine fin1 (fn := Try.f19) hS rfl (r_tmp hS rfl) ?_
   exact rfl
set_option maxHeartbeats 400000 in
theorem c_law42_valid (n : Nat) (M : Bs) (w0 : World) (hM : ∀ b, M b → b < w0.heap.size) (m_ : MRS) (Ap03 : Option Addr) (cp03 : Nat) (Ap04 : Option Addr) (cp04 : Nat) (Ap05 : Option Addr) (cp05 : Nat) (hp03 : SlR Rep.str M w0 Ap03 (m_.Vars).length cp03 (m_.Vars)) (hp04 : SlR REP M w0 Ap04 (m_.Rels).length cp04 (m_.Rels)) (hp05 : SlR RQeq M w0 Ap05 (m_.Cons).length cp05 (m_.Cons)) (r : Bool) (hg : law42_valid n m_ = some r) :
    Calls Try.prog 7 [.agg #[.int .i64 (m_.Top), .int .i64 (m_.Index), .slice (Ap03) ((m_.Vars).length) (cp03), .slice (Ap04) ((m_.Rels).length) (cp04), .slice (Ap05) ((m_.Cons).length) (cp05)]].toArray w0 (Ret noB w0 fun v w => v = .bool (r)) := by
 unfold law42_valid at hg
 refine enter M noB Try.func7 rfl rfl hM ?_
 intro a hS
 replace hS := hS.es 101 hp03
 replace hS := hS.es 102 hp04
 replace hS := hS.es 103 hp05
 apply wR
 refine l_seq rfl (l_box (zs := [.int .i64 (m_.Top), .int .i64 (m_.Index), .slice (Ap03) ((m_.Vars).length) (cp03), .slice (Ap04) ((m_.Rels).length) (cp04), .slice (Ap05) ((m_.Cons).length) (cp05)]) hS 1000 rfl rfl rfl rfl ?_); clear hS a; intro b2 a w hb hK hS
 clear hb hK
 refine qq hS rfl (y_assign hS rfl) fun a hS => ?_
 apply wN
 apply wp_seq
 obtain ⟨r3, hr3, hg⟩ := bind_some hg
 rcases Bool.eq_false_or_eq_true (r3) with hs6 | hs6
 ·replace hg := br_t hg hs6
  obtain ⟨r7, hr7, hg⟩ := bind_some hg
  apply wp_region_lit
  refine qq hS rfl (y_loadBox (kk := 1000) (n := 5) (vs := [.int .i64 (m_.Top), .int .i64 (m_.Index), .slice (Ap03) ((m_.Vars).length) (cp03), .slice (Ap04) ((m_.Rels).length) (cp04), .slice (Ap05) ((m_.Cons).length) (cp05)]) hS rfl rfl Try.underlying26 rfl rfl rfl rfl) fun a hS => ?_
  refine l_seq rfl (l_call (cap := []) hS rfl Try.func19 rfl (by kernel_rfl) rfl rfl (c_r39_Light n _ _ hS.lt m_ (Ap03) (cp03) (Ap04) (cp04) (Ap05) (cp05) (hS.fact (k := 101) rfl) (hS.fact (k := 102) rfl) (hS.fact (k := 103) rfl) 5 r3 hr3) ?_); clear hS a; intro v10 a w hK hp hS
  clear hK
  obtain rfl := hp.trans (congrArg Value.bool hs6)
  refine qq hS rfl (y_move hS rfl) fun a hS => ?_
  refine gy hS rfl (y_loadBox (kk := 1000) (n := 5) (vs := [.int .i64 (m_.Top), .int .i64 (m_.Index), .slice (Ap03) ((m_.Vars).length) (cp03), .slice (Ap04) ((m_.Rels).length) (cp04), .slice (Ap05) ((m_.Cons).length) (cp05)]) hS rfl rfl Try.underlying26 rfl rfl rfl rfl) fun a hS => ?_
  refine gl hS rfl (l_call (cap := []) hS rfl Try.func18 rfl (by kernel_rfl) rfl rfl (c_r39_Check n _ _ hS.lt m_ (Ap03) (cp03) (Ap04) (cp04) (Ap05) (cp05) (hS.fact (k := 101) rfl) (hS.fact (k := 102) rfl) (hS.fact (k := 103) rfl) r7 hr7) ?_); clear hS a; intro v12 a w hK hp hS
  clear hK
  obtain rfl := hp
  refine gy hS rfl (y_eql hS rfl rfl) fun a hS => ?_
  refine qq hS rfl (y_pick_t hS rfl rfl) fun a hS => ?_
  refine qq hS rfl (y_assign hS rfl) fun a hS => ?_
  apply wN
  apply wp_ret
  obtain rfl := Option.some.inj hg
  refine fin1 (fn := Try.f7) hS rfl (r_tmp hS rfl) ?_
  exact rfl
 ·replace hg := br_f hg (by rw [hs6]; exact Bool.false_ne_true)
  apply wp_region_lit
  refine qq hS rfl (y_loadBox (kk := 1000) (n := 5) (vs := [.int .i64 (m_.Top), .int .i64 (m_.Index), .slice (Ap03) ((m_.Vars).length) (cp03), .slice (Ap04) ((m_.Rels).length) (cp04), .slice (Ap05) ((m_.Cons).length) (cp05)]) hS rfl rfl Try.underlying26 rfl rfl rfl rfl) fun a hS => ?_
  refine l_seq rfl (l_call (cap := []) hS rfl Try.func19 rfl (by kernel_rfl) rfl rfl (c_r39_Light n _ _ hS.lt m_ (Ap03) (cp03) (Ap04) (cp04) (Ap05) (cp05) (hS.fact (k := 101) rfl) (hS.fact (k := 102) rfl) (hS.fact (k := 103) rfl) 5 r3 hr3) ?_); clear hS a; intro v14 a w hK hp hS
  clear hK
  obtain rfl := hp.trans (congrArg Value.bool hs6)
  refine qq hS rfl (y_move hS rfl) fun a hS => ?_
  refine gn hS rfl fun a hS => ?_
  refine gn hS rfl fun a hS => ?_
  refine gn hS rfl fun a hS => ?_
  refine qq hS rfl (y_pick_f hS rfl rfl) fun a hS => ?_
  refine qq hS rfl (y_assign hS rfl) fun a hS => ?_
  apply wN
  apply wp_ret
  obtain rfl := Option.some.inj hg
  refine fin1 (fn := Try.f7) hS rfl (r_tmp hS rfl) ?_
  exact rfl
set_option maxHeartbeats 400000 in
theorem c_slices_IndexFunc_EP (n : Nat) (M : Bs) (w0 : World) (hM : ∀ b, M b → b < w0.heap.size) (s_ : (List EP)) (Ap01 : Option Addr) (cp01 : Nat) (hp01 : SlR REP M w0 Ap01 (s_).length cp01 (s_)) (f_ : (EP → Option Bool)) (Ap11 : FuncId) (cp11 : List Value) (hp11 : FnR Try.prog Ap11 cp11 pre57 post57 (f_) M w0) (r : Int) (hg : slices_IndexFunc_EP n s_ f_ = some r) :
    Calls Try.prog 45 [.slice (Ap01) ((s_).length) (cp01), .func (.func Ap11) #[] (List.toArray cp11)].toArray w0 (Ret noB w0 fun v w => v = .int .i64 (r)) := by
 unfold slices_IndexFunc_EP at hg
 refine enter M noB Try.func45 rfl rfl hM ?_
 intro a hS
 replace hS := hS.es 101 hp01
 replace hS := hS.add 102 (fnF Try.prog Ap11 cp11 pre57 post57 (f_)) (by exact Fact.change _ enterM hp11)
 apply wR
 refine qq hS rfl (y_assign hS rfl) fun a hS => ?_
 apply wN
 apply wp_seq
 apply wR
 refine qq hS rfl (y_move hS rfl) fun a hS => ?_
 refine qq hS rfl (y_lenSlice hS rfl Try.underlying23) fun a hS => ?_
 refine qq hS rfl (y_move hS rfl) fun a hS => ?_
 apply wN
 apply wp_block
 refine c_loop (σ := Nat) (fun m1 a w => ∃ (t_1 : Nat), slices_IndexFunc_EP_L0 n s_ f_ m1 t_1 = some r ∧ St (⟨Try.f45.ntmps, M, noB, w0⟩ : Ctx) [(0, .slice (Ap01) ((s_).length) (cp01)), (1, .func (.func Ap11) #[] (List.toArray cp11)), (7, .int .i64 ((((s_).length : Nat) : Int))), (8, .int .i64 (((t_1 : Nat) : Int)))] [] [(101, slF REP (Ap01) ((s_).length) (cp01) (s_)), (102, fnF Try.prog Ap11 cp11 pre57 post57 (f_))] a w) (fun m1 => m1) n ⟨(0), hg, (hS.sb rfl rfl rfl)⟩ ?_
 clear hS a; rintro m1 a w ⟨t_1, hg, hS⟩
 rcases m1 with _ | m1
 ·rw [slices_IndexFunc_EP_L0] at hg; cases hg
 rw [slices_IndexFunc_EP_L0] at hg
 apply wR
 refine qq hS rfl (y_lssN (i := t_1) (j := ((s_).length)) hS rfl rfl) fun a hS => ?_
 apply wN
 apply wp_seq
 refine c_dec hS rfl (fun hc2 => ?_) (fun hc2 => ?_)
 ·replace hg := br_t hg hc2
  have hmx3 := SlR.mx (hS.fact (k := 101) rfl)
  apply wp_skip
  refine p_norm ?_
  apply wp_seq
  apply wp_block
  apply wR
  refine qq hS rfl (y_move hS rfl) fun a hS => ?_
  refine qq hS rfl (y_assign hS rfl) fun a hS => ?_
  apply wN
  apply wp_seq
  obtain ⟨x5, hx5, hg⟩ := bind_some hg
  obtain ⟨r7, hr7, hg⟩ := bind_some hg
  apply wp_region_lit
  refine qq hS rfl (y_move hS rfl) fun a hS => ?_
  refine qq hS rfl (y_move hS rfl) fun a hS => ?_
  refine qq hS rfl (y_move hS rfl) fun a hS => ?_
  obtain ⟨p10, hep10, hpp10⟩ := SlR.elemX (hS.fact (k := 101) rfl) hx5
  refine qq hS rfl (y_elem (sz := 3) (i := t_1) hS rfl rfl Try.underlying23 rfl hep10 rfl (lt_of_get hx5)) fun a hS => ?_
  obtain ⟨hlq11, hmq11, csq11, hdq11, hcq11⟩ := hpp10
  obtain ⟨Aq113, cq113, rfl, lq111, hq113⟩ := REP.open hdq11
  replace hS := hS.add 104 (slF RArg (Aq113) ((x5.Args).length) (cq113) (x5.Args)) hq113
  refine qq hS rfl (y_ldp hS rfl hlq11 hmq11 (by simpa using hcq11) Try.underlying55 rfl rfl) fun a hS => ?_
  refine l_seq rfl (l_callFn (cap := cp11) (x := x5) hS rfl (hS.fact (k := 102) rfl) rfl rfl ⟨(Aq113), (cq113), rfl, (by omega), (hS.fact (k := 104) rfl)⟩ hr7 ?_); clear hS a; intro v12 a w hK hp hS
  clear hK
  obtain rfl := hp
  apply wN
  refine c_cond hS rfl (fun hc14 => ?_) (fun hc14 => ?_)
  ·replace hg := br_t hg hc14
   apply wR
   refine qq hS rfl (y_move hS rfl) fun a hS => ?_
   refine qq hS rfl (y_assign hS rfl) fun a hS => ?_
   apply wN
   apply wp_ret
   refine p_inR ?_
   refine p_thenR ?_
   refine p_thenR ?_
   refine p_inR ?_
   refine p_thenR ?_
   obtain rfl := Option.some.inj hg
   refine fin1 (fn := Try.f45) hS rfl (r_tmp hS rfl) ?_
   exact rfl
  ·replace hg := br_f hg (by rw [hc14]; exact Bool.false_ne_true)
   apply wp_skip
   refine p_inN ?_
   refine p_norm ?_
   apply wp_region_lit
   refine qq hS rfl (y_addN (i := t_1) (j := 1) hS rfl rfl (in64.2 (by omega))) fun a hS => ?_
   refine qq hS rfl (y_move hS rfl) fun a hS => ?_
   apply wN
   exact ⟨m1, Nat.lt_succ_self _, ⟨(t_1 + 1), hg, (hS.sb rfl rfl rfl)⟩⟩
 ·replace hg := br_f hg hc2
  apply wp_exit
  refine p_then ?_
  refine p_then ?_
  refine p_in ?_
  refine p_norm ?_
  apply wR
  refine qq hS rfl (y_assign hS rfl) fun a hS => ?_
  apply wN
  apply wp_ret
  obtain rfl := Option.some.inj hg
  refine fin1 (fn := Try.f45) hS rfl (r_tmp hS rfl) ?_
  exact rfl
set_option maxHeartbeats 400000 in
theorem c_slices_ContainsFunc_EP (n : Nat) (M : Bs) (w0 : World) (hM : ∀ b, M b → b < w0.heap.size) (s_ : (List EP)) (Ap01 : Option Addr) (cp01 : Nat) (hp01 : SlR REP M w0 Ap01 (s_).length cp01 (s_)) (f_ : (EP → Option Bool)) (Ap11 : FuncId) (cp11 : List Value) (hp11 : FnR Try.prog Ap11 cp11 pre57 post57 (f_) M w0) (r : Bool) (hg : slices_ContainsFunc_EP n s_ f_ = some r) :
    Calls Try.prog 24 [.slice (Ap01) ((s_).length) (cp01), .func (.func Ap11) #[] (List.toArray cp11)].toArray w0 (Ret noB w0 fun v w => v = .bool (r)) := by
 unfold slices_ContainsFunc_EP at hg
 refine enter M noB Try.func24 rfl rfl hM ?_
 intro a hS
 replace hS := hS.es 101 hp01
 replace hS := hS.add 102 (fnF Try.prog Ap11 cp11 pre57 post57 (f_)) (by exact Fact.change _ enterM hp11)
 apply wR
 refine qq hS rfl (y_assign hS rfl) fun a hS => ?_
 apply wN
 apply wp_seq
 obtain ⟨r1, hr1, hg⟩ := bind_some hg
 apply wp_region_lit
 refine qq hS rfl (y_move hS rfl) fun a hS => ?_
 refine qq hS rfl (y_move hS rfl) fun a hS => ?_
 refine l_seq rfl (l_call (cap := []) hS rfl Try.func45 rfl (by kernel_rfl) rfl rfl (c_slices_IndexFunc_EP n _ _ hS.lt s_ (Ap01) (cp01) (hS.fact (k := 101) rfl) f_ (Ap11) (cp11) (hS.fact (k := 102) rfl) r1 hr1) ?_); clear hS a; intro v4 a w hK hp hS
 clear hK
 obtain rfl := hp
 refine qq hS rfl (y_geq hS rfl rfl) fun a hS => ?_
 refine qq hS rfl (y_assign hS rfl) fun a hS => ?_
 apply wN
 apply wp_ret
 obtain rfl := Option.some.inj hg
 refine fin1 (fn := Try.f24) hS rfl (r_tmp hS rfl) ?_
 exact rfl
set_option maxHeartbeats 400000 in
theorem c_scope_Labels_1 (n : Nat) (M : Bs) (w0 : World) (hM : ∀ b, M b → b < w0.heap.size) (x_ : EP) (Ap03 : Option Addr) (cp03 : Nat) (lp01 : (x_.Pred).length ≤ 9223372036854775807) (hp03 : SlR RArg M w0 Ap03 (x_.Args).length cp03 (x_.Args)) (bf0 : Nat) (c0_ : Int) (hb0 : BoxR bf0 [.int .i64 (c0_)] 3 M w0) (r : Bool) (hg : scope_Labels_1 n x_ c0_ = some r) :
    Calls Try.prog 28 [.agg #[.string (bs (x_.Pred)), .int .i64 (x_.Label), .slice (Ap03) ((x_.Args).length) (cp03)], .pointer (some ⟨bf0, 0, none⟩)].toArray w0 (Ret noB w0 fun v w => v = .bool (r)) := by
 unfold scope_Labels_1 at hg
 refine enter M noB Try.func28 rfl rfl hM ?_
 intro a hS
 replace hS := hS.es 101 hp03
 replace hS := hS.ebx 102 hb0
 apply wR
 refine l_seq rfl (l_box (zs := [.string (bs (x_.Pred)), .int .i64 (x_.Label), .slice (Ap03) ((x_.Args).length) (cp03)]) hS 1000 rfl rfl rfl rfl ?_); clear hS a; intro b2 a w hb hK hS
 clear hb hK
 refine qq hS rfl (y_assign hS rfl) fun a hS => ?_
 apply wN
 apply wR
 refine qq hS rfl (y_boxField (o' := 1) hS rfl Try.underlying55 rfl rfl rfl) fun a hS => ?_
 refine qq hS rfl (y_loadBox1 (kk := 1000) hS rfl rfl rfl Try.underlying3 rfl) fun a hS => ?_
 refine qq hS rfl (y_loadF1 hS rfl (hS.fact (k := 102) rfl) rfl Try.underlying3 rfl) fun a hS => ?_
 refine qq hS rfl (y_eql hS rfl rfl) fun a hS => ?_
 refine qq hS rfl (y_assign hS rfl) fun a hS => ?_
 apply wN
 apply wp_ret
 obtain rfl := Option.some.inj hg
 refine fin1 (fn := Try.f28) hS rfl (r_tmp hS rfl) ?_
 exact rfl
set_option maxHeartbeats 400000 in
theorem c_scope_Labels (n : Nat) (M : Bs) (w0 : World) (hM : ∀ b, M b → b < w0.heap.size) (m_ : MRS) (Ap03 : Option Addr) (cp03 : Nat) (Ap04 : Option Addr) (cp04 : Nat) (Ap05 : Option Addr) (cp05 : Nat) (hp03 : SlR Rep.str M w0 Ap03 (m_.Vars).length cp03 (m_.Vars)) (hp04 : SlR REP M w0 Ap04 (m_.Rels).length cp04 (m_.Rels)) (hp05 : SlR RQeq M w0 Ap05 (m_.Cons).length cp05 (m_.Cons)) (r : (List Int)) (hg : scope_Labels n m_ = some r) :
    Calls Try.prog 12 [.agg #[.int .i64 (m_.Top), .int .i64 (m_.Index), .slice (Ap03) ((m_.Vars).length) (cp03), .slice (Ap04) ((m_.Rels).length) (cp04), .slice (Ap05) ((m_.Cons).length) (cp05)]].toArray w0 (Ret noB w0 fun v w => ∃ (Aa1 : Option Addr), ∃ (ca1 : Nat), v = .slice (Aa1) ((r).length) (ca1) ∧ (SlR (Rep.num .i64) M w Aa1 (r).length ca1 (r))) := by
 unfold scope_Labels at hg
 refine enter M noB Try.func12 rfl rfl hM ?_
 intro a hS
 replace hS := hS.es 101 hp03
 replace hS := hS.es 102 hp04
 replace hS := hS.es 103 hp05
 apply wR
 refine l_seq rfl (l_box (zs := [.int .i64 (m_.Top), .int .i64 (m_.Index), .slice (Ap03) ((m_.Vars).length) (cp03), .slice (Ap04) ((m_.Rels).length) (cp04), .slice (Ap05) ((m_.Cons).length) (cp05)]) hS 1000 rfl rfl rfl rfl ?_); clear hS a; intro b2 a w hb hK hS
 clear hb hK
 refine qq hS rfl (y_assign hS rfl) fun a hS => ?_
 apply wN
 apply wR
 refine qq hS rfl (y_assign hS rfl) fun a hS => ?_
 apply wN
 apply wp_seq
 apply wR
 refine qq hS rfl (y_boxField (o' := 2) hS rfl Try.underlying26 rfl rfl rfl) fun a hS => ?_
 refine qq hS rfl (y_loadBox1 (kk := 1000) hS rfl rfl rfl Try.underlying22 rfl) fun a hS => ?_
 refine qq hS rfl (y_lenSlice hS rfl Try.underlying22) fun a hS => ?_
 refine qq hS rfl (y_move hS rfl) fun a hS => ?_
 apply wN
 apply wp_block
 replace hS := hS.nilRow 700104 3 1 rfl
 replace hS := hS.add 105 (rdF (Rep.num .i64) [] []) (RdAll.nil _ _ _)
 refine c_loop (σ := Nat) (fun m1 a w => ∃ (out_3 : (List Int)), ∃ (t_7 : Nat), ∃ (A4 : Option Addr), ∃ (c5 : Nat), ∃ (cs6 : List Value), scope_Labels_L0 n m_ m1 out_3 t_7 = some r ∧ St (⟨Try.f12.ntmps, M, noB, w0⟩ : Ctx) [(1, .pointer (some ⟨b2, 0, none⟩)), (3, .slice (A4) ((out_3).length) (c5)), (7, .int .i64 ((((m_.Vars).length : Nat) : Int))), (8, .int .i64 (((t_7 : Nat) : Int)))] [(1000, Ob.box b2 [.int .i64 (m_.Top), .int .i64 (m_.Index), .slice (Ap03) ((m_.Vars).length) (cp03), .slice (Ap04) ((m_.Rels).length) (cp04), .slice (Ap05) ((m_.Cons).length) (cp05)] 26), (700104, Ob.row (A4) ((out_3).length) (c5) 3 1 (cs6))] [(101, slF Rep.str (Ap03) ((m_.Vars).length) (cp03) (m_.Vars)), (102, slF REP (Ap04) ((m_.Rels).length) (cp04) (m_.Rels)), (103, slF RQeq (Ap05) ((m_.Cons).length) (cp05) (m_.Cons)), (105, rdF (Rep.num .i64) (cs6) (out_3))] a w) (fun m1 => m1) n ⟨([]), (0), (none), (0), ([]), hg, (hS.sb rfl rfl rfl)⟩ ?_
 clear hS a; rintro m1 a w ⟨out_3, t_7, A4, c5, cs6, hg, hS⟩
 rcases m1 with _ | m1
 ·rw [scope_Labels_L0] at hg; cases hg
 rw [scope_Labels_L0] at hg
 apply wR
 refine qq hS rfl (y_lssN (i := t_7) (j := ((m_.Vars).length)) hS rfl rfl) fun a hS => ?_
 apply wN
 apply wp_seq
 refine c_dec hS rfl (fun hc8 => ?_) (fun hc8 => ?_)
 ·replace hg := br_t hg hc8
  have hmx9 := SlR.mx (hS.fact (k := 101) rfl)
  apply wp_skip
  refine p_norm ?_
  apply wp_seq
  apply wp_block
  apply wR
  refine qq hS rfl (y_move hS rfl) fun a hS => ?_
  refine l_seq rfl (l_alloc (zs := [.int .i64 (0)]) hS 1401 rfl rfl rfl rfl ?_); clear hS a; intro b11 a w hb hK hS
  clear hb hK
  refine l_seq rfl (l_store (n := 1) (cs' := [.int .i64 (((t_7 : Nat) : Int))]) hS 1401 rfl rfl rfl rfl rfl rfl rfl rfl ?_); clear hS; intro w hK hS; clear hK
  apply wN
  apply wp_seq
  obtain ⟨r12, hr12, hg⟩ := bind_some hg
  apply wp_region_lit
  refine qq hS rfl (y_boxField (o' := 3) hS rfl Try.underlying26 rfl rfl rfl) fun a hS => ?_
  refine qq hS rfl (y_loadBox1 (kk := 1000) hS rfl rfl rfl Try.underlying23 rfl) fun a hS => ?_
  replace hS := hS.freezeBox (L' := [(1000, Ob.box b2 [.int .i64 (m_.Top), .int .i64 (m_.Index), .slice (Ap03) ((m_.Vars).length) (cp03), .slice (Ap04) ((m_.Rels).length) (cp04), .slice (Ap05) ((m_.Cons).length) (cp05)] 26), (700104, Ob.row (A4) ((out_3).length) (c5) 3 1 (cs6))]) 107 1401 rfl ⟨rfl, rfl, trivial⟩ rfl
  refine qq hS rfl (y_makeFunc (xs := [.tmp 4]) (vs := [.pointer (some ⟨b11, 0, none⟩)]) hS rfl) fun a hS => ?_
  refine l_seq rfl (l_call (cap := []) hS rfl Try.func24 rfl (by kernel_rfl) rfl rfl (c_slices_ContainsFunc_EP n _ _ hS.lt m_.Rels (Ap04) (cp04) (hS.fact (k := 102) rfl) (fun p => scope_Labels_1 n p ((t_7 : Nat) : Int)) (28) ([.pointer (some ⟨b11, 0, none⟩)]) ⟨⟨_, _, Try.func28, rfl, by kernel_rfl⟩, fun M1 w1 hk hm hlt vs x r hp hr => by obtain ⟨Aa3, ca3, rfl, la1, ha3⟩ := hp; exact c_scope_Labels_1 n M1 w1 hlt (x) Aa3 ca3 la1 ha3 b11 (((t_7 : Nat) : Int)) (Fact.move (boxF b11 [.int .i64 (((t_7 : Nat) : Int))] 3) hk hm (hS.fact (k := 107) rfl)) r hr⟩ r12 hr12) ?_); clear hS a; intro v15 a w hK hp hS
  clear hK
  obtain rfl := hp
  apply wN
  refine c_cond hS rfl (fun hc17 => ?_) (fun hc17 => ?_)
  ·replace hg := br_t hg hc17
   obtain ⟨hk19, hg⟩ := chk_some hg
   apply wp_region_lit
   refine qq hS rfl (y_move hS rfl) fun a hS => ?_
   refine qq hS rfl (y_loadF1 hS rfl (hS.fact (k := 107) rfl) rfl Try.underlying3 rfl) fun a hS => ?_
   refine l_seq rfl (l_buildDense (sz := 1) hS 1602 rfl rfl rfl Try.underlying33 rfl rfl rfl rfl rfl rfl rfl ?_); clear hS a; intro b22 a w hbb22 hK hS
   clear hbb22 hK
   replace hS := hS.add 110 (rdF (Rep.num .i64) (cellsOfL [.int .i64 (((t_7 : Nat) : Int))]) ([((t_7 : Nat) : Int)])) (RdAll.cons (by exact rfl) (RdAll.nil _ _ _))
   have hs24 := row_src (hS.wd.holds 1602 _ rfl) (RdAll.one (hS.fact (k := 110) rfl))
   refine l_seq rfl (l_append (sz := 1) (by_ := 8) (N := (out_3 ++ [((t_7 : Nat) : Int)]).length) (ys := cs6 ++ (cellsOfL [.int .i64 (((t_7 : Nat) : Int))])) hS 700104 rfl rfl rfl Try.underlying33 rfl rfl rfl rfl rfl hs24 (by simp) rfl (by have hr := hk19; clear hg; first | omega | (simp only [List.length_append, List.length_cons, List.length_nil] at hr ⊢; omega) | (simp at hr ⊢; omega)) (by have hr := hk19; clear hg; first | omega | (simp only [List.length_append, List.length_cons, List.length_nil] at hr ⊢; omega) | (simp at hr ⊢; omega)) rfl ?_); clear hS a; intro Aq23 cq23 a w hA hK hS
   clear hK hA
   replace hS := hS.add 111 (rdF (Rep.num .i64) (cs6 ++ (cellsOfL [.int .i64 (((t_7 : Nat) : Int))])) (out_3 ++ [((t_7 : Nat) : Int)])) (RdAll.append (hS.fact (k := 105) rfl) (hS.fact (k := 110) rfl))
   refine qq hS rfl (y_assign hS rfl) fun a hS => ?_
   apply wpList_nil
   refine p_inN ?_
   refine p_norm ?_
   apply wp_region_lit
   refine qq hS rfl (y_addN (i := t_7) (j := 1) hS rfl rfl (in64.2 (by omega))) fun a hS => ?_
   refine qq hS rfl (y_move hS rfl) fun a hS => ?_
   apply wN
   replace hS := hS.add 105 (rdF (Rep.num .i64) (cs6 ++ (cellsOfL [.int .i64 (((t_7 : Nat) : Int))])) (out_3 ++ [((t_7 : Nat) : Int)])) (hS.fact (k := 111) rfl)
   exact ⟨m1, Nat.lt_succ_self _, ⟨(out_3 ++ [((t_7 : Nat) : Int)]), (t_7 + 1), (Aq23), (cq23), (cs6 ++ (cellsOfL [.int .i64 (((t_7 : Nat) : Int))])), hg, (hS.sb rfl rfl rfl)⟩⟩
  ·replace hg := br_f hg (by rw [hc17]; exact Bool.false_ne_true)
   apply wp_skip
   refine p_inN ?_
   refine p_norm ?_
   apply wp_region_lit
   refine qq hS rfl (y_addN (i := t_7) (j := 1) hS rfl rfl (in64.2 (by omega))) fun a hS => ?_
   refine qq hS rfl (y_move hS rfl) fun a hS => ?_
   apply wN
   replace hS := hS.al 105 105 rfl
   exact ⟨m1, Nat.lt_succ_self _, ⟨(out_3), (t_7 + 1), (A4), (c5), (cs6), hg, (hS.sb rfl rfl rfl)⟩⟩
 ·replace hg := br_f hg hc8
  apply wp_exit
  refine p_then ?_
  refine p_then ?_
  refine p_in ?_
  refine p_norm ?_
  apply wR
  refine qq hS rfl (y_move hS rfl) fun a hS => ?_
  refine qq hS rfl (y_assign hS rfl) fun a hS => ?_
  apply wN
  apply wp_ret
  obtain rfl := Option.some.inj hg
  refine fin1 (fn := Try.f12) hS rfl (r_tmp hS rfl) ?_
  exact ⟨(A4), (c5), rfl, (hS.rowOut (R := (Rep.num .i64)) (kk := 700104) rfl rfl (hS.fact (k := 105) rfl))⟩
set_option maxHeartbeats 400000 in
theorem c_slices_Index_int (n : Nat) (M : Bs) (w0 : World) (hM : ∀ b, M b → b < w0.heap.size) (s_ : (List Int)) (Ap01 : Option Addr) (cp01 : Nat) (hp01 : SlR (Rep.num .i64) M w0 Ap01 (s_).length cp01 (s_)) (v_ : Int) (r : Int) (hg : slices_Index_int n s_ v_ = some r) :
    Calls Try.prog 44 [.slice (Ap01) ((s_).length) (cp01), .int .i64 (v_)].toArray w0 (Ret noB w0 fun v w => v = .int .i64 (r)) := by
 unfold slices_Index_int at hg
 refine enter M noB Try.func44 rfl rfl hM ?_
 intro a hS
 replace hS := hS.es 101 hp01
 apply wR
 refine qq hS rfl (y_assign hS rfl) fun a hS => ?_
 apply wN
 apply wp_seq
 apply wR
 refine qq hS rfl (y_move hS rfl) fun a hS => ?_
 refine qq hS rfl (y_lenSlice hS rfl Try.underlying33) fun a hS => ?_
 refine qq hS rfl (y_move hS rfl) fun a hS => ?_
 apply wN
 apply wp_block
 refine c_loop (σ := Nat) (fun m1 a w => ∃ (t_1 : Nat), slices_Index_int_L0 n s_ v_ m1 t_1 = some r ∧ St (⟨Try.f44.ntmps, M, noB, w0⟩ : Ctx) [(0, .slice (Ap01) ((s_).length) (cp01)), (1, .int .i64 (v_)), (7, .int .i64 ((((s_).length : Nat) : Int))), (8, .int .i64 (((t_1 : Nat) : Int)))] [] [(101, slF (Rep.num .i64) (Ap01) ((s_).length) (cp01) (s_))] a w) (fun m1 => m1) n ⟨(0), hg, (hS.sb rfl rfl rfl)⟩ ?_
 clear hS a; rintro m1 a w ⟨t_1, hg, hS⟩
 rcases m1 with _ | m1
 ·rw [slices_Index_int_L0] at hg; cases hg
 rw [slices_Index_int_L0] at hg
 apply wR
 refine qq hS rfl (y_lssN (i := t_1) (j := ((s_).length)) hS rfl rfl) fun a hS => ?_
 apply wN
 apply wp_seq
 refine c_dec hS rfl (fun hc2 => ?_) (fun hc2 => ?_)
 ·replace hg := br_t hg hc2
  have hmx3 := SlR.mx (hS.fact (k := 101) rfl)
  apply wp_skip
  refine p_norm ?_
  apply wp_seq
  apply wp_block
  apply wR
  refine qq hS rfl (y_move hS rfl) fun a hS => ?_
  refine qq hS rfl (y_assign hS rfl) fun a hS => ?_
  apply wN
  apply wp_seq
  obtain ⟨x5, hx5, hg⟩ := bind_some hg
  apply wp_region_lit
  refine qq hS rfl (y_move hS rfl) fun a hS => ?_
  refine qq hS rfl (y_move hS rfl) fun a hS => ?_
  refine qq hS rfl (y_move hS rfl) fun a hS => ?_
  obtain ⟨p7, hep7, hpp7⟩ := SlR.elemX (hS.fact (k := 101) rfl) hx5
  refine qq hS rfl (y_elem (sz := 1) (i := t_1) hS rfl rfl Try.underlying33 rfl hep7 rfl (lt_of_get hx5)) fun a hS => ?_
  obtain ⟨hlq8, hmq8, csq8, hdq8, hcq8⟩ := hpp7
  obtain rfl := hdq8
  refine qq hS rfl (y_ldp1 hS rfl hlq8 hmq8 (hcq8 0 _ rfl) Try.underlying3 rfl) fun a hS => ?_
  refine qq hS rfl (y_eql hS rfl rfl) fun a hS => ?_
  apply wN
  refine c_dec hS rfl (fun hc9 => ?_) (fun hc9 => ?_)
  ·replace hg := br_t hg hc9
   apply wR
   refine qq hS rfl (y_move hS rfl) fun a hS => ?_
   refine qq hS rfl (y_assign hS rfl) fun a hS => ?_
   apply wN
   apply wp_ret
   refine p_inR ?_
   refine p_thenR ?_
   refine p_thenR ?_
   refine p_inR ?_
   refine p_thenR ?_
   obtain rfl := Option.some.inj hg
   refine fin1 (fn := Try.f44) hS rfl (r_tmp hS rfl) ?_
   exact rfl
  ·replace hg := br_f hg hc9
   apply wp_skip
   refine p_inN ?_
   refine p_norm ?_
   apply wp_region_lit
   refine qq hS rfl (y_addN (i := t_1) (j := 1) hS rfl rfl (in64.2 (by omega))) fun a hS => ?_
   refine qq hS rfl (y_move hS rfl) fun a hS => ?_
   apply wN
   exact ⟨m1, Nat.lt_succ_self _, ⟨(t_1 + 1), hg, (hS.sb rfl rfl rfl)⟩⟩
 ·replace hg := br_f hg hc2
  apply wp_exit
  refine p_then ?_
  refine p_then ?_
  refine p_in ?_
  refine p_norm ?_
  apply wR
  refine qq hS rfl (y_assign hS rfl) fun a hS => ?_
  apply wN
  apply wp_ret
  obtain rfl := Option.some.inj hg
  refine fin1 (fn := Try.f44) hS rfl (r_tmp hS rfl) ?_
  exact rfl
set_option maxHeartbeats 400000 in
theorem c_slices_Contains_int (n : Nat) (M : Bs) (w0 : World) (hM : ∀ b, M b → b < w0.heap.size) (s_ : (List Int)) (Ap01 : Option Addr) (cp01 : Nat) (hp01 : SlR (Rep.num .i64) M w0 Ap01 (s_).length cp01 (s_)) (v_ : Int) (r : Bool) (hg : slices_Contains_int n s_ v_ = some r) :
    Calls Try.prog 23 [.slice (Ap01) ((s_).length) (cp01), .int .i64 (v_)].toArray w0 (Ret noB w0 fun v w => v = .bool (r)) := by
 unfold slices_Contains_int at hg
 refine enter M noB Try.func23 rfl rfl hM ?_
 intro a hS
 replace hS := hS.es 101 hp01
 apply wR
 refine qq hS rfl (y_assign hS rfl) fun a hS => ?_
 apply wN
 apply wp_seq
 obtain ⟨r1, hr1, hg⟩ := bind_some hg
 apply wp_region_lit
 refine qq hS rfl (y_move hS rfl) fun a hS => ?_
 refine qq hS rfl (y_move hS rfl) fun a hS => ?_
 refine l_seq rfl (l_call (cap := []) hS rfl Try.func44 rfl (by kernel_rfl) rfl rfl (c_slices_Index_int n _ _ hS.lt s_ (Ap01) (cp01) (hS.fact (k := 101) rfl) v_ r1 hr1) ?_); clear hS a; intro v4 a w hK hp hS
 clear hK
 obtain rfl := hp
 refine qq hS rfl (y_geq hS rfl rfl) fun a hS => ?_
 refine qq hS rfl (y_assign hS rfl) fun a hS => ?_
 apply wN
 apply wp_ret
 obtain rfl := Option.some.inj hg
 refine fin1 (fn := Try.f23) hS rfl (r_tmp hS rfl) ?_
 exact rfl
set_option maxHeartbeats 400000 in
theorem c_slices_IndexFunc_Arg (n : Nat) (M : Bs) (w0 : World) (hM : ∀ b, M b → b < w0.heap.size) (s_ : (List Arg)) (Ap01 : Option Addr) (cp01 : Nat) (hp01 : SlR RArg M w0 Ap01 (s_).length cp01 (s_)) (f_ : (Arg → Option Bool)) (Ap11 : FuncId) (cp11 : List Value) (hp11 : FnR Try.prog Ap11 cp11 pre82 post82 (f_) M w0) (r : Int) (hg : slices_IndexFunc_Arg n s_ f_ = some r) :
    Calls Try.prog 65 [.slice (Ap01) ((s_).length) (cp01), .func (.func Ap11) #[] (List.toArray cp11)].toArray w0 (Ret noB w0 fun v w => v = .int .i64 (r)) := by
 unfold slices_IndexFunc_Arg at hg
 refine enter M noB Try.func65 rfl rfl hM ?_
 intro a hS
 replace hS := hS.es 101 hp01
 replace hS := hS.add 102 (fnF Try.prog Ap11 cp11 pre82 post82 (f_)) (by exact Fact.change _ enterM hp11)
 apply wR
 refine qq hS rfl (y_assign hS rfl) fun a hS => ?_
 apply wN
 apply wp_seq
 apply wR
 refine qq hS rfl (y_move hS rfl) fun a hS => ?_
 refine qq hS rfl (y_lenSlice hS rfl Try.underlying53) fun a hS => ?_
 refine qq hS rfl (y_move hS rfl) fun a hS => ?_
 apply wN
 apply wp_block
 refine c_loop (σ := Nat) (fun m1 a w => ∃ (t_1 : Nat), slices_IndexFunc_Arg_L0 n s_ f_ m1 t_1 = some r ∧ St (⟨Try.f65.ntmps, M, noB, w0⟩ : Ctx) [(0, .slice (Ap01) ((s_).length) (cp01)), (1, .func (.func Ap11) #[] (List.toArray cp11)), (7, .int .i64 ((((s_).length : Nat) : Int))), (8, .int .i64 (((t_1 : Nat) : Int)))] [] [(101, slF RArg (Ap01) ((s_).length) (cp01) (s_)), (102, fnF Try.prog Ap11 cp11 pre82 post82 (f_))] a w) (fun m1 => m1) n ⟨(0), hg, (hS.sb rfl rfl rfl)⟩ ?_
 clear hS a; rintro m1 a w ⟨t_1, hg, hS⟩
 rcases m1 with _ | m1
 ·rw [slices_IndexFunc_Arg_L0] at hg; cases hg
 rw [slices_IndexFunc_Arg_L0] at hg
 apply wR
 refine qq hS rfl (y_lssN (i := t_1) (j := ((s_).length)) hS rfl rfl) fun a hS => ?_
 apply wN
 apply wp_seq
 refine c_dec hS rfl (fun hc2 => ?_) (fun hc2 => ?_)
 ·replace hg := br_t hg hc2
  have hmx3 := SlR.mx (hS.fact (k := 101) rfl)
  apply wp_skip
  refine p_norm ?_
  apply wp_seq
  apply wp_block
  apply wR
  refine qq hS rfl (y_move hS rfl) fun a hS => ?_
  refine qq hS rfl (y_assign hS rfl) fun a hS => ?_
  apply wN
  apply wp_seq
  obtain ⟨x5, hx5, hg⟩ := bind_some hg
  obtain ⟨r7, hr7, hg⟩ := bind_some hg
  apply wp_region_lit
  refine qq hS rfl (y_move hS rfl) fun a hS => ?_
  refine qq hS rfl (y_move hS rfl) fun a hS => ?_
  refine qq hS rfl (y_move hS rfl) fun a hS => ?_
  obtain ⟨p10, hep10, hpp10⟩ := SlR.elemX (hS.fact (k := 101) rfl) hx5
  refine qq hS rfl (y_elem (sz := 2) (i := t_1) hS rfl rfl Try.underlying53 rfl hep10 rfl (lt_of_get hx5)) fun a hS => ?_
  obtain ⟨hlq11, hmq11, csq11, hdq11, hcq11⟩ := hpp10
  obtain ⟨rfl, lq111⟩ := RArg.open hdq11
  refine qq hS rfl (y_ldp hS rfl hlq11 hmq11 (by simpa using hcq11) Try.underlying76 rfl rfl) fun a hS => ?_
  refine l_seq rfl (l_callFn (cap := cp11) (x := x5) hS rfl (hS.fact (k := 102) rfl) rfl rfl ⟨rfl, (by omega)⟩ hr7 ?_); clear hS a; intro v12 a w hK hp hS
  clear hK
  obtain rfl := hp
  apply wN
  refine c_cond hS rfl (fun hc14 => ?_) (fun hc14 => ?_)
  ·replace hg := br_t hg hc14
   apply wR
   refine qq hS rfl (y_move hS rfl) fun a hS => ?_
   refine qq hS rfl (y_assign hS rfl) fun a hS => ?_
   apply wN
   apply wp_ret
   refine p_inR ?_
   refine p_thenR ?_
   refine p_thenR ?_
   refine p_inR ?_
   refine p_thenR ?_
   obtain rfl := Option.some.inj hg
   refine fin1 (fn := Try.f65) hS rfl (r_tmp hS rfl) ?_
   exact rfl
  ·replace hg := br_f hg (by rw [hc14]; exact Bool.false_ne_true)
   apply wp_skip
   refine p_inN ?_
   refine p_norm ?_
   apply wp_region_lit
   refine qq hS rfl (y_addN (i := t_1) (j := 1) hS rfl rfl (in64.2 (by omega))) fun a hS => ?_
   refine qq hS rfl (y_move hS rfl) fun a hS => ?_
   apply wN
   exact ⟨m1, Nat.lt_succ_self _, ⟨(t_1 + 1), hg, (hS.sb rfl rfl rfl)⟩⟩
 ·replace hg := br_f hg hc2
  apply wp_exit
  refine p_then ?_
  refine p_then ?_
  refine p_in ?_
  refine p_norm ?_
  apply wR
  refine qq hS rfl (y_assign hS rfl) fun a hS => ?_
  apply wN
  apply wp_ret
  obtain rfl := Option.some.inj hg
  refine fin1 (fn := Try.f65) hS rfl (r_tmp hS rfl) ?_
  exact rfl
set_option maxHeartbeats 400000 in
theorem c_slices_ContainsFunc_Arg (n : Nat) (M : Bs) (w0 : World) (hM : ∀ b, M b → b < w0.heap.size) (s_ : (List Arg)) (Ap01 : Option Addr) (cp01 : Nat) (hp01 : SlR RArg M w0 Ap01 (s_).length cp01 (s_)) (f_ : (Arg → Option Bool)) (Ap11 : FuncId) (cp11 : List Value) (hp11 : FnR Try.prog Ap11 cp11 pre82 post82 (f_) M w0) (r : Bool) (hg : slices_ContainsFunc_Arg n s_ f_ = some r) :
    Calls Try.prog 46 [.slice (Ap01) ((s_).length) (cp01), .func (.func Ap11) #[] (List.toArray cp11)].toArray w0 (Ret noB w0 fun v w => v = .bool (r)) := by
 unfold slices_ContainsFunc_Arg at hg
 refine enter M noB Try.func46 rfl rfl hM ?_
 intro a hS
 replace hS := hS.es 101 hp01
 replace hS := hS.add 102 (fnF Try.prog Ap11 cp11 pre82 post82 (f_)) (by exact Fact.change _ enterM hp11)
 apply wR
 refine qq hS rfl (y_assign hS rfl) fun a hS => ?_
 apply wN
 apply wp_seq
 obtain ⟨r1, hr1, hg⟩ := bind_some hg
 apply wp_region_lit
 refine qq hS rfl (y_move hS rfl) fun a hS => ?_
 refine qq hS rfl (y_move hS rfl) fun a hS => ?_
 refine l_seq rfl (l_call (cap := []) hS rfl Try.func65 rfl (by kernel_rfl) rfl rfl (c_slices_IndexFunc_Arg n _ _ hS.lt s_ (Ap01) (cp01) (hS.fact (k := 101) rfl) f_ (Ap11) (cp11) (hS.fact (k := 102) rfl) r1 hr1) ?_); clear hS a; intro v4 a w hK hp hS
 clear hK
 obtain rfl := hp
 refine qq hS rfl (y_geq hS rfl rfl) fun a hS => ?_
 refine qq hS rfl (y_assign hS rfl) fun a hS => ?_
 apply wN
 apply wp_ret
 obtain rfl := Option.some.inj hg
 refine fin1 (fn := Try.f46) hS rfl (r_tmp hS rfl) ?_
 exact rfl
set_option maxHeartbeats 400000 in
theorem c_scope_used_1 (n : Nat) (M : Bs) (w0 : World) (hM : ∀ b, M b → b < w0.heap.size) (a_ : Arg) (lp01 : (a_.Role).length ≤ 9223372036854775807) (bf0 : Nat) (c0_ : Int) (hb0 : BoxR bf0 [.int .i64 (c0_)] 3 M w0) (r : Bool) (hg : scope_used_1 n a_ c0_ = some r) :
    Calls Try.prog 47 [.agg #[.string (bs (a_.Role)), .int .i64 (a_.Var)], .pointer (some ⟨bf0, 0, none⟩)].toArray w0 (Ret noB w0 fun v w => v = .bool (r)) := by
 unfold scope_used_1 at hg
 refine enter M noB Try.func47 rfl rfl hM ?_
 intro a hS
 replace hS := hS.ebx 101 hb0
 apply wR
 refine l_seq rfl (l_box (zs := [.string (bs (a_.Role)), .int .i64 (a_.Var)]) hS 1000 rfl rfl rfl rfl ?_); clear hS a; intro b2 a w hb hK hS
 clear hb hK
 refine qq hS rfl (y_assign hS rfl) fun a hS => ?_
 apply wN
 apply wR
 refine qq hS rfl (y_boxField (o' := 1) hS rfl Try.underlying76 rfl rfl rfl) fun a hS => ?_
 refine qq hS rfl (y_loadBox1 (kk := 1000) hS rfl rfl rfl Try.underlying3 rfl) fun a hS => ?_
 refine qq hS rfl (y_loadF1 hS rfl (hS.fact (k := 101) rfl) rfl Try.underlying3 rfl) fun a hS => ?_
 refine qq hS rfl (y_eql hS rfl rfl) fun a hS => ?_
 refine qq hS rfl (y_assign hS rfl) fun a hS => ?_
 apply wN
 apply wp_ret
 obtain rfl := Option.some.inj hg
 refine fin1 (fn := Try.f47) hS rfl (r_tmp hS rfl) ?_
 exact rfl
set_option maxHeartbeats 400000 in
theorem c_scope_used (n : Nat) (M : Bs) (w0 : World) (hM : ∀ b, M b → b < w0.heap.size) (x_ : EP) (Ap03 : Option Addr) (cp03 : Nat) (lp01 : (x_.Pred).length ≤ 9223372036854775807) (hp03 : SlR RArg M w0 Ap03 (x_.Args).length cp03 (x_.Args)) (v_ : Int) (r : Bool) (hg : scope_used n x_ v_ = some r) :
    Calls Try.prog 26 [.agg #[.string (bs (x_.Pred)), .int .i64 (x_.Label), .slice (Ap03) ((x_.Args).length) (cp03)], .int .i64 (v_)].toArray w0 (Ret noB w0 fun v w => v = .bool (r)) := by
 unfold scope_used at hg
 refine enter M noB Try.func26 rfl rfl hM ?_
 intro a hS
 replace hS := hS.es 101 hp03
 apply wR
 refine l_seq rfl (l_box (zs := [.string (bs (x_.Pred)), .int .i64 (x_.Label), .slice (Ap03) ((x_.Args).length) (cp03)]) hS 1000 rfl rfl rfl rfl ?_); clear hS a; intro b3 a w hb hK hS
 clear hb hK
 refine l_seq rfl (l_box (zs := [.int .i64 (v_)]) hS 1001 rfl rfl rfl rfl ?_); clear hS a; intro b4 a w hb hK hS
 clear hb hK
 refine qq hS rfl (y_assign hS rfl) fun a hS => ?_
 apply wN
 apply wp_seq
 obtain ⟨r5, hr5, hg⟩ := bind_some hg
 apply wp_region_lit
 refine qq hS rfl (y_boxField (o' := 2) hS rfl Try.underlying55 rfl rfl rfl) fun a hS => ?_
 refine qq hS rfl (y_loadBox1 (kk := 1000) hS rfl rfl rfl Try.underlying53 rfl) fun a hS => ?_
 replace hS := hS.freezeBox (L' := [(1000, Ob.box b3 [.string (bs (x_.Pred)), .int .i64 (x_.Label), .slice (Ap03) ((x_.Args).length) (cp03)] 55)]) 103 1001 rfl ⟨rfl, trivial⟩ rfl
 refine qq hS rfl (y_makeFunc (xs := [.tmp 3]) (vs := [.pointer (some ⟨b4, 0, none⟩)]) hS rfl) fun a hS => ?_
 refine l_seq rfl (l_call (cap := []) hS rfl Try.func46 rfl (by kernel_rfl) rfl rfl (c_slices_ContainsFunc_Arg n _ _ hS.lt x_.Args (Ap03) (cp03) (hS.fact (k := 101) rfl) (fun p => scope_used_1 n p v_) (47) ([.pointer (some ⟨b4, 0, none⟩)]) ⟨⟨_, _, Try.func47, rfl, by kernel_rfl⟩, fun M1 w1 hk hm hlt vs x r hp hr => by obtain ⟨rfl, la1⟩ := hp; exact c_scope_used_1 n M1 w1 hlt (x) la1 b4 (v_) (Fact.move (boxF b4 [.int .i64 (v_)] 3) hk hm (hS.fact (k := 103) rfl)) r hr⟩ r5 hr5) ?_); clear hS a; intro v8 a w hK hp hS
 clear hK
 obtain rfl := hp
 refine qq hS rfl (y_assign hS rfl) fun a hS => ?_
 apply wN
 apply wp_ret
 obtain rfl := Option.some.inj hg
 refine fin1 (fn := Try.f26) hS rfl (r_tmp hS rfl) ?_
 exact rfl
set_option maxHeartbeats 400000 in
theorem c_scope_Holes_1 (n : Nat) (M : Bs) (w0 : World) (hM : ∀ b, M b → b < w0.heap.size) (x_ : EP) (Ap03 : Option Addr) (cp03 : Nat) (lp01 : (x_.Pred).length ≤ 9223372036854775807) (hp03 : SlR RArg M w0 Ap03 (x_.Args).length cp03 (x_.Args)) (bf0 : Nat) (c0_ : Int) (hb0 : BoxR bf0 [.int .i64 (c0_)] 3 M w0) (r : Bool) (hg : scope_Holes_1 n x_ c0_ = some r) :
    Calls Try.prog 25 [.agg #[.string (bs (x_.Pred)), .int .i64 (x_.Label), .slice (Ap03) ((x_.Args).length) (cp03)], .pointer (some ⟨bf0, 0, none⟩)].toArray w0 (Ret noB w0 fun v w => v = .bool (r)) := by
 unfold scope_Holes_1 at hg
 refine enter M noB Try.func25 rfl rfl hM ?_
 intro a hS
 replace hS := hS.es 101 hp03
 replace hS := hS.ebx 102 hb0
 apply wR
 refine l_seq rfl (l_box (zs := [.string (bs (x_.Pred)), .int .i64 (x_.Label), .slice (Ap03) ((x_.Args).length) (cp03)]) hS 1000 rfl rfl rfl rfl ?_); clear hS a; intro b2 a w hb hK hS
 clear hb hK
 refine qq hS rfl (y_assign hS rfl) fun a hS => ?_
 apply wN
 apply wp_seq
 obtain ⟨r3, hr3, hg⟩ := bind_some hg
 apply wp_region_lit
 refine qq hS rfl (y_loadBox (kk := 1000) (n := 3) (vs := [.string (bs (x_.Pred)), .int .i64 (x_.Label), .slice (Ap03) ((x_.Args).length) (cp03)]) hS rfl rfl Try.underlying55 rfl rfl rfl rfl) fun a hS => ?_
 refine qq hS rfl (y_loadF1 hS rfl (hS.fact (k := 102) rfl) rfl Try.underlying3 rfl) fun a hS => ?_
 refine l_seq rfl (l_call (cap := []) hS rfl Try.func26 rfl (by kernel_rfl) rfl rfl (c_scope_used n _ _ hS.lt x_ (Ap03) (cp03) (by omega) (hS.fact (k := 101) rfl) c0_ r3 hr3) ?_); clear hS a; intro v6 a w hK hp hS
 clear hK
 obtain rfl := hp
 refine qq hS rfl (y_assign hS rfl) fun a hS => ?_
 apply wN
 apply wp_ret
 obtain rfl := Option.some.inj hg
 refine fin1 (fn := Try.f25) hS rfl (r_tmp hS rfl) ?_
 exact rfl
set_option maxHeartbeats 400000 in
theorem c_scope_Holes (n : Nat) (M : Bs) (w0 : World) (hM : ∀ b, M b → b < w0.heap.size) (m_ : MRS) (Ap03 : Option Addr) (cp03 : Nat) (Ap04 : Option Addr) (cp04 : Nat) (Ap05 : Option Addr) (cp05 : Nat) (hp03 : SlR Rep.str M w0 Ap03 (m_.Vars).length cp03 (m_.Vars)) (hp04 : SlR REP M w0 Ap04 (m_.Rels).length cp04 (m_.Rels)) (hp05 : SlR RQeq M w0 Ap05 (m_.Cons).length cp05 (m_.Cons)) (r : (List Int)) (hg : scope_Holes n m_ = some r) :
    Calls Try.prog 10 [.agg #[.int .i64 (m_.Top), .int .i64 (m_.Index), .slice (Ap03) ((m_.Vars).length) (cp03), .slice (Ap04) ((m_.Rels).length) (cp04), .slice (Ap05) ((m_.Cons).length) (cp05)]].toArray w0 (Ret noB w0 fun v w => ∃ (Aa1 : Option Addr), ∃ (ca1 : Nat), v = .slice (Aa1) ((r).length) (ca1) ∧ (SlR (Rep.num .i64) M w Aa1 (r).length ca1 (r))) := by
 unfold scope_Holes at hg
 refine enter M noB Try.func10 rfl rfl hM ?_
 intro a hS
 replace hS := hS.es 101 hp03
 replace hS := hS.es 102 hp04
 replace hS := hS.es 103 hp05
 apply wR
 refine l_seq rfl (l_box (zs := [.int .i64 (m_.Top), .int .i64 (m_.Index), .slice (Ap03) ((m_.Vars).length) (cp03), .slice (Ap04) ((m_.Rels).length) (cp04), .slice (Ap05) ((m_.Cons).length) (cp05)]) hS 1000 rfl rfl rfl rfl ?_); clear hS a; intro b2 a w hb hK hS
 clear hb hK
 refine qq hS rfl (y_assign hS rfl) fun a hS => ?_
 apply wN
 apply wR
 refine qq hS rfl (y_assign hS rfl) fun a hS => ?_
 apply wN
 apply wp_seq
 obtain ⟨r3, hr3, hg⟩ := bind_some hg
 apply wp_region_lit
 refine qq hS rfl (y_loadBox (kk := 1000) (n := 5) (vs := [.int .i64 (m_.Top), .int .i64 (m_.Index), .slice (Ap03) ((m_.Vars).length) (cp03), .slice (Ap04) ((m_.Rels).length) (cp04), .slice (Ap05) ((m_.Cons).length) (cp05)]) hS rfl rfl Try.underlying26 rfl rfl rfl rfl) fun a hS => ?_
 refine l_seq rfl (l_call (cap := []) hS rfl Try.func12 rfl (by kernel_rfl) rfl rfl (c_scope_Labels n _ _ hS.lt m_ (Ap03) (cp03) (Ap04) (cp04) (Ap05) (cp05) (hS.fact (k := 101) rfl) (hS.fact (k := 102) rfl) (hS.fact (k := 103) rfl) r3 hr3) ?_); clear hS a; intro v6 a w hK hp hS
 clear hK
 obtain ⟨Au7a1, cu7a1, rfl, hu7a1⟩ := hp
 replace hS := hS.add 105 (slF (Rep.num .i64) (Au7a1) ((r3).length) (cu7a1) (r3)) hu7a1
 refine qq hS rfl (y_assign hS rfl) fun a hS => ?_
 apply wN
 apply wp_seq
 apply wR
 refine qq hS rfl (y_boxField (o' := 2) hS rfl Try.underlying26 rfl rfl rfl) fun a hS => ?_
 refine qq hS rfl (y_loadBox1 (kk := 1000) hS rfl rfl rfl Try.underlying22 rfl) fun a hS => ?_
 refine qq hS rfl (y_lenSlice hS rfl Try.underlying22) fun a hS => ?_
 refine qq hS rfl (y_move hS rfl) fun a hS => ?_
 apply wN
 apply wp_block
 replace hS := hS.nilRow 700106 3 1 rfl
 replace hS := hS.add 107 (rdF (Rep.num .i64) [] []) (RdAll.nil _ _ _)
 refine c_loop (σ := Nat) (fun m1 a w => ∃ (out_8 : (List Int)), ∃ (t_12 : Nat), ∃ (A9 : Option Addr), ∃ (c10 : Nat), ∃ (cs11 : List Value), scope_Holes_L0 n m_ r3 m1 out_8 t_12 = some r ∧ St (⟨Try.f10.ntmps, M, noB, w0⟩ : Ctx) [(1, .pointer (some ⟨b2, 0, none⟩)), (3, .slice (A9) ((out_8).length) (c10)), (4, .slice (Au7a1) ((r3).length) (cu7a1)), (10, .int .i64 ((((m_.Vars).length : Nat) : Int))), (11, .int .i64 (((t_12 : Nat) : Int)))] [(1000, Ob.box b2 [.int .i64 (m_.Top), .int .i64 (m_.Index), .slice (Ap03) ((m_.Vars).length) (cp03), .slice (Ap04) ((m_.Rels).length) (cp04), .slice (Ap05) ((m_.Cons).length) (cp05)] 26), (700106, Ob.row (A9) ((out_8).length) (c10) 3 1 (cs11))] [(101, slF Rep.str (Ap03) ((m_.Vars).length) (cp03) (m_.Vars)), (102, slF REP (Ap04) ((m_.Rels).length) (cp04) (m_.Rels)), (103, slF RQeq (Ap05) ((m_.Cons).length) (cp05) (m_.Cons)), (105, slF (Rep.num .i64) (Au7a1) ((r3).length) (cu7a1) (r3)), (107, rdF (Rep.num .i64) (cs11) (out_8))] a w) (fun m1 => m1) n ⟨([]), (0), (none), (0), ([]), hg, (hS.sb rfl rfl rfl)⟩ ?_
 clear hS a; rintro m1 a w ⟨out_8, t_12, A9, c10, cs11, hg, hS⟩
 rcases m1 with _ | m1
 ·rw [scope_Holes_L0] at hg; cases hg
 rw [scope_Holes_L0] at hg
 apply wR
 refine qq hS rfl (y_lssN (i := t_12) (j := ((m_.Vars).length)) hS rfl rfl) fun a hS => ?_
 apply wN
 apply wp_seq
 refine c_dec hS rfl (fun hc13 => ?_) (fun hc13 => ?_)
 ·replace hg := br_t hg hc13
  have hmx14 := SlR.mx (hS.fact (k := 101) rfl)
  apply wp_skip
  refine p_norm ?_
  apply wp_seq
  apply wp_block
  apply wR
  refine qq hS rfl (y_move hS rfl) fun a hS => ?_
  refine l_seq rfl (l_alloc (zs := [.int .i64 (0)]) hS 1501 rfl rfl rfl rfl ?_); clear hS a; intro b16 a w hb hK hS
  clear hb hK
  refine l_seq rfl (l_store (n := 1) (cs' := [.int .i64 (((t_12 : Nat) : Int))]) hS 1501 rfl rfl rfl rfl rfl rfl rfl rfl ?_); clear hS; intro w hK hS; clear hK
  apply wN
  apply wp_seq
  apply wp_seq
  obtain ⟨k17, hg, hk17⟩ := jn_some hg
  refine c_post (fun a w => ∃ (t_18 : Bool), k17 t_18 = some r ∧ St (⟨Try.f10.ntmps, M, noB, w0⟩ : Ctx) [(1, .pointer (some ⟨b2, 0, none⟩)), (3, .slice (A9) ((out_8).length) (c10)), (4, .slice (Au7a1) ((r3).length) (cu7a1)), (5, .pointer (some ⟨b16, 0, none⟩)), (10, .int .i64 ((((m_.Vars).length : Nat) : Int))), (11, .int .i64 (((t_12 : Nat) : Int))), (24, .bool (t_18))] [(1000, Ob.box b2 [.int .i64 (m_.Top), .int .i64 (m_.Index), .slice (Ap03) ((m_.Vars).length) (cp03), .slice (Ap04) ((m_.Rels).length) (cp04), .slice (Ap05) ((m_.Cons).length) (cp05)] 26), (1501, Ob.box b16 [.int .i64 (((t_12 : Nat) : Int))] 3), (700106, Ob.row (A9) ((out_8).length) (c10) 3 1 (cs11))] [(101, slF Rep.str (Ap03) ((m_.Vars).length) (cp03) (m_.Vars)), (102, slF REP (Ap04) ((m_.Rels).length) (cp04) (m_.Rels)), (103, slF RQeq (Ap05) ((m_.Cons).length) (cp05) (m_.Cons)), (105, slF (Rep.num .i64) (Au7a1) ((r3).length) (cu7a1) (r3)), (107, rdF (Rep.num .i64) (cs11) (out_8))] a w) ?_ ?_
  ·obtain ⟨x20, hx20, hg⟩ := bind_some hg
   rcases Decidable.em ((x20 : List UInt8) ≠ [104]) with hs22 | hs22
   ·have hs22e : decide ((x20 : List UInt8) ≠ [104]) = true := decide_eq_true hs22
    replace hg := br_t hg hs22
    apply wp_region_lit
    refine qq hS rfl (y_boxField (o' := 2) hS rfl Try.underlying26 rfl rfl rfl) fun a hS => ?_
    refine qq hS rfl (y_loadBox1 (kk := 1000) hS rfl rfl rfl Try.underlying22 rfl) fun a hS => ?_
    refine qq hS rfl (y_loadBox1 (kk := 1501) hS rfl rfl rfl Try.underlying3 rfl) fun a hS => ?_
    obtain ⟨p23, hep23, hpp23⟩ := SlR.elemX (hS.fact (k := 101) rfl) hx20
    refine qq hS rfl (y_elem (sz := 1) (i := t_12) hS rfl rfl Try.underlying22 rfl hep23 rfl (lt_of_get hx20)) fun a hS => ?_
    obtain ⟨hlq24, hmq24, csq24, hdq24, hcq24⟩ := hpp23
    obtain ⟨rfl, lq241⟩ := hdq24
    refine qq hS rfl (y_ldp1 hS rfl hlq24 hmq24 (hcq24 0 _ rfl) Try.underlying9 rfl) fun a hS => ?_
    refine qq hS rfl (yl_b (y_sne hS rfl rfl) hs22e) fun a hS => ?_
    refine qq hS rfl (y_move hS rfl) fun a hS => ?_
    refine gn hS rfl fun a hS => ?_
    refine gn hS rfl fun a hS => ?_
    refine gn hS rfl fun a hS => ?_
    refine qq hS rfl (y_pick_t hS rfl rfl) fun a hS => ?_
    apply wN
    exact ⟨(true), hg, (hS.sb rfl rfl rfl)⟩
   ·have hs22e : decide ((x20 : List UInt8) ≠ [104]) = false := decide_eq_false hs22
    replace hg := br_f hg hs22
    obtain ⟨r25, hr25, hg⟩ := bind_some hg
    apply wp_region_lit
    refine qq hS rfl (y_boxField (o' := 2) hS rfl Try.underlying26 rfl rfl rfl) fun a hS => ?_
    refine qq hS rfl (y_loadBox1 (kk := 1000) hS rfl rfl rfl Try.underlying22 rfl) fun a hS => ?_
    refine qq hS rfl (y_loadBox1 (kk := 1501) hS rfl rfl rfl Try.underlying3 rfl) fun a hS => ?_
    obtain ⟨p28, hep28, hpp28⟩ := SlR.elemX (hS.fact (k := 101) rfl) hx20
    refine qq hS rfl (y_elem (sz := 1) (i := t_12) hS rfl rfl Try.underlying22 rfl hep28 rfl (lt_of_get hx20)) fun a hS => ?_
    obtain ⟨hlq29, hmq29, csq29, hdq29, hcq29⟩ := hpp28
    obtain ⟨rfl, lq291⟩ := hdq29
    refine qq hS rfl (y_ldp1 hS rfl hlq29 hmq29 (hcq29 0 _ rfl) Try.underlying9 rfl) fun a hS => ?_
    refine qq hS rfl (yl_b (y_sne hS rfl rfl) hs22e) fun a hS => ?_
    refine qq hS rfl (y_move hS rfl) fun a hS => ?_
    refine gy hS rfl (y_move hS rfl) fun a hS => ?_
    refine gy hS rfl (y_loadBox1 (kk := 1501) hS rfl rfl rfl Try.underlying3 rfl) fun a hS => ?_
    refine gl hS rfl (l_call (cap := []) hS rfl Try.func23 rfl (by kernel_rfl) rfl rfl (c_slices_Contains_int n _ _ hS.lt r3 (Au7a1) (cu7a1) (hS.fact (k := 105) rfl) ((t_12 : Nat) : Int) r25 hr25) ?_); clear hS a; intro v30 a w hK hp hS
    clear hK
    obtain rfl := hp
    refine qq hS rfl (y_pick_f hS rfl rfl) fun a hS => ?_
    apply wN
    exact ⟨(r25), hg, (hS.sb rfl rfl rfl)⟩
  clear hS a; rintro a w ⟨t_18, hg, hS⟩
  subst hk17
  refine c_cond hS rfl (fun hc32 => ?_) (fun hc32 => ?_)
  ·replace hg := br_t hg hc32
   apply wp_exit
   refine p_then ?_
   refine p_in ?_
   refine p_norm ?_
   apply wp_region_lit
   refine qq hS rfl (y_addN (i := t_12) (j := 1) hS rfl rfl (in64.2 (by omega))) fun a hS => ?_
   refine qq hS rfl (y_move hS rfl) fun a hS => ?_
   apply wN
   replace hS := hS.al 107 107 rfl
   exact ⟨m1, Nat.lt_succ_self _, ⟨(out_8), (t_12 + 1), (A9), (c10), (cs11), hg, (hS.sb rfl rfl rfl)⟩⟩
  ·replace hg := br_f hg (by rw [hc32]; exact Bool.false_ne_true)
   apply wp_skip
   refine p_norm ?_
   apply wp_seq
   obtain ⟨k33, hg, hk33⟩ := jn_some hg
   refine c_post (fun a w => ∃ (t_34 : Bool), k33 t_34 = some r ∧ St (⟨Try.f10.ntmps, M, noB, w0⟩ : Ctx) [(1, .pointer (some ⟨b2, 0, none⟩)), (3, .slice (A9) ((out_8).length) (c10)), (4, .slice (Au7a1) ((r3).length) (cu7a1)), (5, .pointer (some ⟨b16, 0, none⟩)), (10, .int .i64 ((((m_.Vars).length : Nat) : Int))), (11, .int .i64 (((t_12 : Nat) : Int))), (34, .bool (t_34))] [(1000, Ob.box b2 [.int .i64 (m_.Top), .int .i64 (m_.Index), .slice (Ap03) ((m_.Vars).length) (cp03), .slice (Ap04) ((m_.Rels).length) (cp04), .slice (Ap05) ((m_.Cons).length) (cp05)] 26), (700106, Ob.row (A9) ((out_8).length) (c10) 3 1 (cs11))] [(101, slF Rep.str (Ap03) ((m_.Vars).length) (cp03) (m_.Vars)), (102, slF REP (Ap04) ((m_.Rels).length) (cp04) (m_.Rels)), (103, slF RQeq (Ap05) ((m_.Cons).length) (cp05) (m_.Cons)), (105, slF (Rep.num .i64) (Au7a1) ((r3).length) (cu7a1) (r3)), (107, rdF (Rep.num .i64) (cs11) (out_8)), (108, boxF b16 [.int .i64 (((t_12 : Nat) : Int))] 3)] a w) ?_ ?_
   ·rcases Decidable.em (((t_12 : Nat) : Int) = m_.Top) with hs35 | hs35
    ·have hs35e : decide (((t_12 : Nat) : Int) = m_.Top) = true := decide_eq_true hs35
     replace hg := br_t hg hs35
     apply wp_region_lit
     refine qq hS rfl (y_loadBox1 (kk := 1501) hS rfl rfl rfl Try.underlying3 rfl) fun a hS => ?_
     refine qq hS rfl (y_boxField (o' := 0) hS rfl Try.underlying26 rfl rfl rfl) fun a hS => ?_
     refine qq hS rfl (y_loadBox1 (kk := 1000) hS rfl rfl rfl Try.underlying3 rfl) fun a hS => ?_
     refine qq hS rfl (yl_b (y_eql hS rfl rfl) hs35e) fun a hS => ?_
     refine qq hS rfl (y_move hS rfl) fun a hS => ?_
     refine gn hS rfl fun a hS => ?_
     refine gn hS rfl fun a hS => ?_
     refine gn hS rfl fun a hS => ?_
     refine gn hS rfl fun a hS => ?_
     refine qq hS rfl (y_pick_t hS rfl rfl) fun a hS => ?_
     apply wN
     replace hS := hS.freezeBox (L' := [(1000, Ob.box b2 [.int .i64 (m_.Top), .int .i64 (m_.Index), .slice (Ap03) ((m_.Vars).length) (cp03), .slice (Ap04) ((m_.Rels).length) (cp04), .slice (Ap05) ((m_.Cons).length) (cp05)] 26), (700106, Ob.row (A9) ((out_8).length) (c10) 3 1 (cs11))]) 109 1501 rfl ⟨rfl, rfl, trivial⟩ rfl
     replace hS := hS.al 108 109 rfl
     exact ⟨(true), hg, (hS.sb rfl rfl rfl)⟩
    ·have hs35e : decide (((t_12 : Nat) : Int) = m_.Top) = false := decide_eq_false hs35
     replace hg := br_f hg hs35
     obtain ⟨r36, hr36, hg⟩ := bind_some hg
     apply wp_region_lit
     refine qq hS rfl (y_loadBox1 (kk := 1501) hS rfl rfl rfl Try.underlying3 rfl) fun a hS => ?_
     refine qq hS rfl (y_boxField (o' := 0) hS rfl Try.underlying26 rfl rfl rfl) fun a hS => ?_
     refine qq hS rfl (y_loadBox1 (kk := 1000) hS rfl rfl rfl Try.underlying3 rfl) fun a hS => ?_
     refine qq hS rfl (yl_b (y_eql hS rfl rfl) hs35e) fun a hS => ?_
     refine qq hS rfl (y_move hS rfl) fun a hS => ?_
     refine gy hS rfl (y_boxField (o' := 3) hS rfl Try.underlying26 rfl rfl rfl) fun a hS => ?_
     refine gy hS rfl (y_loadBox1 (kk := 1000) hS rfl rfl rfl Try.underlying23 rfl) fun a hS => ?_
     replace hS := hS.freezeBox (L' := [(1000, Ob.box b2 [.int .i64 (m_.Top), .int .i64 (m_.Index), .slice (Ap03) ((m_.Vars).length) (cp03), .slice (Ap04) ((m_.Rels).length) (cp04), .slice (Ap05) ((m_.Cons).length) (cp05)] 26), (700106, Ob.row (A9) ((out_8).length) (c10) 3 1 (cs11))]) 111 1501 rfl ⟨rfl, rfl, trivial⟩ rfl
     refine gy hS rfl (y_makeFunc (xs := [.tmp 5]) (vs := [.pointer (some ⟨b16, 0, none⟩)]) hS rfl) fun a hS => ?_
     refine gl hS rfl (l_call (cap := []) hS rfl Try.func24 rfl (by kernel_rfl) rfl rfl (c_slices_ContainsFunc_EP n _ _ hS.lt m_.Rels (Ap04) (cp04) (hS.fact (k := 102) rfl) (fun p => scope_Holes_1 n p ((t_12 : Nat) : Int)) (25) ([.pointer (some ⟨b16, 0, none⟩)]) ⟨⟨_, _, Try.func25, rfl, by kernel_rfl⟩, fun M1 w1 hk hm hlt vs x r hp hr => by obtain ⟨Aa3, ca3, rfl, la1, ha3⟩ := hp; exact c_scope_Holes_1 n M1 w1 hlt (x) Aa3 ca3 la1 ha3 b16 (((t_12 : Nat) : Int)) (Fact.move (boxF b16 [.int .i64 (((t_12 : Nat) : Int))] 3) hk hm (hS.fact (k := 111) rfl)) r hr⟩ r36 hr36) ?_); clear hS a; intro v39 a w hK hp hS
     clear hK
     obtain rfl := hp
     refine qq hS rfl (y_pick_f hS rfl rfl) fun a hS => ?_
     apply wN
     replace hS := hS.al 108 111 rfl
     exact ⟨(r36), hg, (hS.sb rfl rfl rfl)⟩
   clear hS a; rintro a w ⟨t_34, hg, hS⟩
   subst hk33
   refine c_cond hS rfl (fun hc41 => ?_) (fun hc41 => ?_)
   ·replace hg := br_t hg hc41
    obtain ⟨hk43, hg⟩ := chk_some hg
    apply wp_region_lit
    refine qq hS rfl (y_move hS rfl) fun a hS => ?_
    refine qq hS rfl (y_loadF1 hS rfl (hS.fact (k := 108) rfl) rfl Try.underlying3 rfl) fun a hS => ?_
    refine l_seq rfl (l_buildDense (sz := 1) hS 1802 rfl rfl rfl Try.underlying33 rfl rfl rfl rfl rfl rfl rfl ?_); clear hS a; intro b46 a w hbb46 hK hS
    clear hbb46 hK
    replace hS := hS.add 114 (rdF (Rep.num .i64) (cellsOfL [.int .i64 (((t_12 : Nat) : Int))]) ([((t_12 : Nat) : Int)])) (RdAll.cons (by exact rfl) (RdAll.nil _ _ _))
    have hs48 := row_src (hS.wd.holds 1802 _ rfl) (RdAll.one (hS.fact (k := 114) rfl))
    refine l_seq rfl (l_append (sz := 1) (by_ := 8) (N := (out_8 ++ [((t_12 : Nat) : Int)]).length) (ys := cs11 ++ (cellsOfL [.int .i64 (((t_12 : Nat) : Int))])) hS 700106 rfl rfl rfl Try.underlying33 rfl rfl rfl rfl rfl hs48 (by simp) rfl (by have hr := hk43; clear hg; first | omega | (simp only [List.length_append, List.length_cons, List.length_nil] at hr ⊢; omega) | (simp at hr ⊢; omega)) (by have hr := hk43; clear hg; first | omega | (simp only [List.length_append, List.length_cons, List.length_nil] at hr ⊢; omega) | (simp at hr ⊢; omega)) rfl ?_); clear hS a; intro Aq47 cq47 a w hA hK hS
    clear hK hA
    replace hS := hS.add 115 (rdF (Rep.num .i64) (cs11 ++ (cellsOfL [.int .i64 (((t_12 : Nat) : Int))])) (out_8 ++ [((t_12 : Nat) : Int)])) (RdAll.append (hS.fact (k := 107) rfl) (hS.fact (k := 114) rfl))
    refine qq hS rfl (y_assign hS rfl) fun a hS => ?_
    apply wpList_nil
    refine p_inN ?_
    refine p_norm ?_
    apply wp_region_lit
    refine qq hS rfl (y_addN (i := t_12) (j := 1) hS rfl rfl (in64.2 (by omega))) fun a hS => ?_
    refine qq hS rfl (y_move hS rfl) fun a hS => ?_
    apply wN
    replace hS := hS.add 107 (rdF (Rep.num .i64) (cs11 ++ (cellsOfL [.int .i64 (((t_12 : Nat) : Int))])) (out_8 ++ [((t_12 : Nat) : Int)])) (hS.fact (k := 115) rfl)
    exact ⟨m1, Nat.lt_succ_self _, ⟨(out_8 ++ [((t_12 : Nat) : Int)]), (t_12 + 1), (Aq47), (cq47), (cs11 ++ (cellsOfL [.int .i64 (((t_12 : Nat) : Int))])), hg, (hS.sb rfl rfl rfl)⟩⟩
   ·replace hg := br_f hg (by rw [hc41]; exact Bool.false_ne_true)
    apply wp_skip
    refine p_inN ?_
    refine p_norm ?_
    apply wp_region_lit
    refine qq hS rfl (y_addN (i := t_12) (j := 1) hS rfl rfl (in64.2 (by omega))) fun a hS => ?_
    refine qq hS rfl (y_move hS rfl) fun a hS => ?_
    apply wN
    replace hS := hS.al 107 107 rfl
    exact ⟨m1, Nat.lt_succ_self _, ⟨(out_8), (t_12 + 1), (A9), (c10), (cs11), hg, (hS.sb rfl rfl rfl)⟩⟩
 ·replace hg := br_f hg hc13
  apply wp_exit
  refine p_then ?_
  refine p_then ?_
  refine p_in ?_
  refine p_norm ?_
  apply wR
  refine qq hS rfl (y_move hS rfl) fun a hS => ?_
  refine qq hS rfl (y_assign hS rfl) fun a hS => ?_
  apply wN
  apply wp_ret
  obtain rfl := Option.some.inj hg
  refine fin1 (fn := Try.f10) hS rfl (r_tmp hS rfl) ?_
  exact ⟨(A9), (c10), rfl, (hS.rowOut (R := (Rep.num .i64)) (kk := 700106) rfl rfl (hS.fact (k := 107) rfl))⟩
set_option maxHeartbeats 400000 in
theorem c_scope_plugged (n : Nat) (M : Bs) (w0 : World) (hM : ∀ b, M b → b < w0.heap.size) (m_ : MRS) (Ap03 : Option Addr) (cp03 : Nat) (Ap04 : Option Addr) (cp04 : Nat) (Ap05 : Option Addr) (cp05 : Nat) (hp03 : SlR Rep.str M w0 Ap03 (m_.Vars).length cp03 (m_.Vars)) (hp04 : SlR REP M w0 Ap04 (m_.Rels).length cp04 (m_.Rels)) (hp05 : SlR RQeq M w0 Ap05 (m_.Cons).length cp05 (m_.Cons)) (plug_ : (List Int)) (Ap11 : Option Addr) (cp11 : Nat) (hp11 : SlR (Rep.num .i64) M w0 Ap11 (plug_).length cp11 (plug_)) (r : tree) (hg : scope_plugged n m_ plug_ = some r) :
    Calls Try.prog 29 [.agg #[.int .i64 (m_.Top), .int .i64 (m_.Index), .slice (Ap03) ((m_.Vars).length) (cp03), .slice (Ap04) ((m_.Rels).length) (cp04), .slice (Ap05) ((m_.Cons).length) (cp05)], .slice (Ap11) ((plug_).length) (cp11)].toArray w0 (Ret noB w0 fun v w => ∃ (Aa3 : Option Addr), ∃ (ca3 : Nat), ∃ (Aa4 : Option Addr), ∃ (ca4 : Nat), ∃ (Aa5 : Option Addr), ∃ (ca5 : Nat), ∃ (Aa6 : Option Addr), ∃ (ca6 : Nat), ∃ (Aa7 : Option Addr), ∃ (ca7 : Nat), v = .agg #[.int .i64 (r.m_.Top), .int .i64 (r.m_.Index), .slice (Aa3) ((r.m_.Vars).length) (ca3), .slice (Aa4) ((r.m_.Rels).length) (ca4), .slice (Aa5) ((r.m_.Cons).length) (ca5), .slice (Aa6) ((r.labels_).length) (ca6), .slice (Aa7) ((r.at_).length) (ca7)] ∧ (SlR Rep.str M w Aa3 (r.m_.Vars).length ca3 (r.m_.Vars)) ∧ (SlR REP M w Aa4 (r.m_.Rels).length ca4 (r.m_.Rels)) ∧ (SlR RQeq M w Aa5 (r.m_.Cons).length ca5 (r.m_.Cons)) ∧ (SlR (Rep.num .i64) M w Aa6 (r.labels_).length ca6 (r.labels_)) ∧ (SlR (Rep.num .i64) M w Aa7 (r.at_).length ca7 (r.at_))) := by
 unfold scope_plugged at hg
 refine enter M noB Try.func29 rfl rfl hM ?_
 intro a hS
 replace hS := hS.es 101 hp03
 replace hS := hS.es 102 hp04
 replace hS := hS.es 103 hp05
 replace hS := hS.es 104 hp11
 apply wR
 refine l_seq rfl (l_box (zs := [.int .i64 (m_.Top), .int .i64 (m_.Index), .slice (Ap03) ((m_.Vars).length) (cp03), .slice (Ap04) ((m_.Rels).length) (cp04), .slice (Ap05) ((m_.Cons).length) (cp05)]) hS 1000 rfl rfl rfl rfl ?_); clear hS a; intro b3 a w hb hK hS
 clear hb hK
 refine l_seq rfl (l_alloc (zs := [.int .i64 (0), .int .i64 (0), .slice (none) (0) (0), .slice (none) (0) (0), .slice (none) (0) (0), .slice (none) (0) (0), .slice (none) (0) (0)]) hS 1001 rfl rfl rfl rfl ?_); clear hS a; intro b4 a w hb hK hS
 clear hb hK
 apply wN
 apply wp_seq
 obtain ⟨k5, hg, hk5⟩ := jn_some hg
 refine c_post (fun a w => ∃ (t_7 : (List Int)), ∃ (b6 : Nat), ∃ (A8 : Option Addr), ∃ (c9 : Nat), k5 t_7 = some r ∧ St (⟨Try.f29.ntmps, M, noB, w0⟩ : Ctx) [(1, .slice (Ap11) ((plug_).length) (cp11)), (2, .pointer (some ⟨b3, 0, none⟩)), (4, .pointer (some ⟨b4, 0, none⟩)), (5, .pointer (some ⟨b6, 0, none⟩))] [(1000, Ob.box b3 [.int .i64 (m_.Top), .int .i64 (m_.Index), .slice (Ap03) ((m_.Vars).length) (cp03), .slice (Ap04) ((m_.Rels).length) (cp04), .slice (Ap05) ((m_.Cons).length) (cp05)] 26), (1001, Ob.box b4 [.int .i64 (0), .int .i64 (0), .slice (none) (0) (0), .slice (none) (0) (0), .slice (none) (0) (0), .slice (none) (0) (0), .slice (none) (0) (0)] 59), (1104, Ob.box b6 [.int .i64 (m_.Top), .int .i64 (m_.Index), .slice (Ap03) ((m_.Vars).length) (cp03), .slice (Ap04) ((m_.Rels).length) (cp04), .slice (Ap05) ((m_.Cons).length) (cp05), .slice (A8) ((t_7).length) (c9), .slice (none) (0) (0)] 59)] [(101, slF Rep.str (Ap03) ((m_.Vars).length) (cp03) (m_.Vars)), (102, slF REP (Ap04) ((m_.Rels).length) (cp04) (m_.Rels)), (103, slF RQeq (Ap05) ((m_.Cons).length) (cp05) (m_.Cons)), (104, slF (Rep.num .i64) (Ap11) ((plug_).length) (cp11) (plug_)), (105, slF (Rep.num .i64) (A8) ((t_7).length) (c9) (t_7))] a w) ?_ ?_
 ·obtain ⟨r10, hr10, hg⟩ := bind_some hg
  refine d_steps hS [] rfl ?_; clear hS; intro wr hZ hS; have hR := hS.wd
  refine n_q 0 1000 hS hR rfl (by kernel_rfl) (by kernel_rfl) (by kernel_rfl) rfl rfl rfl (y_loadBox (kk := 1000) (n := 5) (vs := [.int .i64 (m_.Top), .int .i64 (m_.Index), .slice (Ap03) ((m_.Vars).length) (cp03), .slice (Ap04) ((m_.Rels).length) (cp04), .slice (Ap05) ((m_.Cons).length) (cp05)]) hS rfl rfl Try.underlying26 rfl rfl rfl rfl) fun a hS => ?_
  refine n_q 1 1000 hS hR rfl (by kernel_rfl) (by kernel_rfl) (by kernel_rfl) rfl rfl rfl (y_loadBox (kk := 1000) (n := 5) (vs := [.int .i64 (m_.Top), .int .i64 (m_.Index), .slice (Ap03) ((m_.Vars).length) (cp03), .slice (Ap04) ((m_.Rels).length) (cp04), .slice (Ap05) ((m_.Cons).length) (cp05)]) hS rfl rfl Try.underlying26 rfl rfl rfl rfl) fun a hS => ?_
  refine n_2 2 4 hS (by kernel_rfl) rfl rfl rfl rfl ?_ ?_
  ·refine l_call (cap := []) hS rfl Try.func12 rfl (by kernel_rfl) rfl rfl (c_scope_Labels n _ _ hS.lt m_ (Ap03) (cp03) (Ap04) (cp04) (Ap05) (cp05) (hS.fact (k := 101) rfl) (hS.fact (k := 102) rfl) (hS.fact (k := 103) rfl) r10 hr10) ?_; clear hS a; intro v14 a w hK hp hS
   replace hZ := Nat.le_trans hZ hK.size; refine ⟨fun g _ h => h.grow hK, ?_⟩; clear hK
   obtain ⟨Au15a1, cu15a1, rfl, hu15a1⟩ := hp
   replace hS := hS.add 107 (slF (Rep.num .i64) (Au15a1) ((r10).length) (cu15a1) (r10)) hu15a1
   refine n_2 3 4 hS (by kernel_rfl) rfl rfl rfl rfl ?_ ?_
   ·refine l_quiet hS rfl rfl (y_build (parts := [(0, .tmp 10), (1, .tmp 12)]) (ps := [(0, .agg #[.int .i64 (m_.Top), .int .i64 (m_.Index), .slice (Ap03) ((m_.Vars).length) (cp03), .slice (Ap04) ((m_.Rels).length) (cp04), .slice (Ap05) ((m_.Cons).length) (cp05)]), (1, .slice (Au15a1) ((r10).length) (cu15a1))]) (cells := #[.int .i64 (m_.Top), .int .i64 (m_.Index), .slice (Ap03) ((m_.Vars).length) (cp03), .slice (Ap04) ((m_.Rels).length) (cp04), .slice (Ap05) ((m_.Cons).length) (cp05), .slice (Au15a1) ((r10).length) (cu15a1), .slice (none) (0) (0)]) hS rfl (by kernel_rfl)) fun a hS => ?_; refine ⟨fun g _ h => h, ?_⟩
    refine n_1 4 hS (by kernel_rfl) rfl rfl (l_alloc (zs := [.int .i64 (0), .int .i64 (0), .slice (none) (0) (0), .slice (none) (0) (0), .slice (none) (0) (0), .slice (none) (0) (0), .slice (none) (0) (0)]) hS 1104 rfl rfl rfl rfl ?_); clear hS a; intro b16 a w hb hK hS
    have hNb16 := Nat.le_trans hZ hb
    clear hb
    replace hZ := Nat.le_trans hZ hK.size; refine ⟨fun g _ h => h.grow hK, ?_⟩; clear hK
    refine n_1 5 hS (by kernel_rfl) rfl rfl (l_store (n := 7) (cs' := [.int .i64 (m_.Top), .int .i64 (m_.Index), .slice (Ap03) ((m_.Vars).length) (cp03), .slice (Ap04) ((m_.Rels).length) (cp04), .slice (Ap05) ((m_.Cons).length) (cp05), .slice (Au15a1) ((r10).length) (cu15a1), .slice (none) (0) (0)]) hS 1104 rfl rfl rfl rfl rfl rfl rfl rfl ?_); clear hS; intro w hK hS; replace hZ := Nat.le_trans hZ hK.size
    refine ⟨fun g _ h => h.app hR hK (fun x e => by cases e; exact hNb16), ?_⟩; clear hK
    refine n_end (by kernel_rfl) ?_; clear hR hZ
    refine p_norm ?_
    replace hS := hS.al 105 107 rfl
    exact ⟨(r10), (b16), (Au15a1), (cu15a1), hg, (hS.sb rfl rfl rfl)⟩
   ·refine l_alloc (zs := [.int .i64 (0), .int .i64 (0), .slice (none) (0) (0), .slice (none) (0) (0), .slice (none) (0) (0), .slice (none) (0) (0), .slice (none) (0) (0)]) hS 1104 rfl rfl rfl rfl ?_; clear hS a; intro b17 a w hb hK hS
    have hNb17 := Nat.le_trans hZ hb
    clear hb
    replace hZ := Nat.le_trans hZ hK.size; refine ⟨fun g _ h => h.grow hK, ?_⟩; clear hK
    refine n_1 3 hS (by kernel_rfl) rfl rfl (l_quiet hS rfl rfl (y_build (parts := [(0, .tmp 10), (1, .tmp 12)]) (ps := [(0, .agg #[.int .i64 (m_.Top), .int .i64 (m_.Index), .slice (Ap03) ((m_.Vars).length) (cp03), .slice (Ap04) ((m_.Rels).length) (cp04), .slice (Ap05) ((m_.Cons).length) (cp05)]), (1, .slice (Au15a1) ((r10).length) (cu15a1))]) (cells := #[.int .i64 (m_.Top), .int .i64 (m_.Index), .slice (Ap03) ((m_.Vars).length) (cp03), .slice (Ap04) ((m_.Rels).length) (cp04), .slice (Ap05) ((m_.Cons).length) (cp05), .slice (Au15a1) ((r10).length) (cu15a1), .slice (none) (0) (0)]) hS rfl (by kernel_rfl)) fun a hS => ?_); refine ⟨fun g _ h => h, ?_⟩
    refine n_1 5 hS (by kernel_rfl) rfl rfl (l_store (n := 7) (cs' := [.int .i64 (m_.Top), .int .i64 (m_.Index), .slice (Ap03) ((m_.Vars).length) (cp03), .slice (Ap04) ((m_.Rels).length) (cp04), .slice (Ap05) ((m_.Cons).length) (cp05), .slice (Au15a1) ((r10).length) (cu15a1), .slice (none) (0) (0)]) hS 1104 rfl rfl rfl rfl rfl rfl rfl rfl ?_); clear hS; intro w hK hS; replace hZ := Nat.le_trans hZ hK.size
    refine ⟨fun g _ h => h.app hR hK (fun x e => by cases e; exact hNb17), ?_⟩; clear hK
    refine n_end (by kernel_rfl) ?_; clear hR hZ
    refine p_norm ?_
    replace hS := hS.al 105 107 rfl
    exact ⟨(r10), (b17), (Au15a1), (cu15a1), hg, (hS.sb rfl rfl rfl)⟩
  ·refine l_alloc (zs := [.int .i64 (0), .int .i64 (0), .slice (none) (0) (0), .slice (none) (0) (0), .slice (none) (0) (0), .slice (none) (0) (0), .slice (none) (0) (0)]) hS 1104 rfl rfl rfl rfl ?_; clear hS a; intro b18 a w hb hK hS
   have hNb18 := Nat.le_trans hZ hb
   clear hb
   replace hZ := Nat.le_trans hZ hK.size; refine ⟨fun g _ h => h.grow hK, ?_⟩; clear hK
   refine n_1 2 hS (by kernel_rfl) rfl rfl (l_call (cap := []) hS rfl Try.func12 rfl (by kernel_rfl) rfl rfl (c_scope_Labels n _ _ hS.lt m_ (Ap03) (cp03) (Ap04) (cp04) (Ap05) (cp05) (hS.fact (k := 101) rfl) (hS.fact (k := 102) rfl) (hS.fact (k := 103) rfl) r10 hr10) ?_); clear hS a; intro v19 a w hK hp hS
   replace hZ := Nat.le_trans hZ hK.size; refine ⟨fun g _ h => h.grow hK, ?_⟩; clear hK
   obtain ⟨Au20a1, cu20a1, rfl, hu20a1⟩ := hp
   replace hS := hS.add 108 (slF (Rep.num .i64) (Au20a1) ((r10).length) (cu20a1) (r10)) hu20a1
   refine n_1 3 hS (by kernel_rfl) rfl rfl (l_quiet hS rfl rfl (y_build (parts := [(0, .tmp 10), (1, .tmp 12)]) (ps := [(0, .agg #[.int .i64 (m_.Top), .int .i64 (m_.Index), .slice (Ap03) ((m_.Vars).length) (cp03), .slice (Ap04) ((m_.Rels).length) (cp04), .slice (Ap05) ((m_.Cons).length) (cp05)]), (1, .slice (Au20a1) ((r10).length) (cu20a1))]) (cells := #[.int .i64 (m_.Top), .int .i64 (m_.Index), .slice (Ap03) ((m_.Vars).length) (cp03), .slice (Ap04) ((m_.Rels).length) (cp04), .slice (Ap05) ((m_.Cons).length) (cp05), .slice (Au20a1) ((r10).length) (cu20a1), .slice (none) (0) (0)]) hS rfl (by kernel_rfl)) fun a hS => ?_); refine ⟨fun g _ h => h, ?_⟩
   refine n_1 5 hS (by kernel_rfl) rfl rfl (l_store (n := 7) (cs' := [.int .i64 (m_.Top), .int .i64 (m_.Index), .slice (Ap03) ((m_.Vars).length) (cp03), .slice (Ap04) ((m_.Rels).length) (cp04), .slice (Ap05) ((m_.Cons).length) (cp05), .slice (Au20a1) ((r10).length) (cu20a1), .slice (none) (0) (0)]) hS 1104 rfl rfl rfl rfl rfl rfl rfl rfl ?_); clear hS; intro w hK hS; replace hZ := Nat.le_trans hZ hK.size
   refine ⟨fun g _ h => h.app hR hK (fun x e => by cases e; exact hNb18), ?_⟩; clear hK
   refine n_end (by kernel_rfl) ?_; clear hR hZ
   refine p_norm ?_
   replace hS := hS.al 105 108 rfl
   exact ⟨(r10), (b18), (Au20a1), (cu20a1), hg, (hS.sb rfl rfl rfl)⟩
 clear hS a; rintro a w ⟨t_7, b6, A8, c9, hg, hS⟩
 subst hk5
 apply wp_seq
 apply wR
 refine qq hS rfl (y_boxField (o' := 2) hS rfl Try.underlying26 rfl rfl rfl) fun a hS => ?_
 refine qq hS rfl (y_loadBox1 (kk := 1000) hS rfl rfl rfl Try.underlying22 rfl) fun a hS => ?_
 refine qq hS rfl (y_lenSlice hS rfl Try.underlying22) fun a hS => ?_
 refine qq hS rfl (y_move hS rfl) fun a hS => ?_
 apply wN
 obtain ⟨k21, hg, hk21⟩ := jn_some hg
 refine c_post (fun a w => ∃ (b_22 : (List Int)), ∃ (A23 : Option Addr), ∃ (c24 : Nat), ∃ (cs25 : List Value), k21 b_22 = some r ∧ St (⟨Try.f29.ntmps, M, noB, w0⟩ : Ctx) [(1, .slice (Ap11) ((plug_).length) (cp11)), (2, .pointer (some ⟨b3, 0, none⟩)), (4, .pointer (some ⟨b4, 0, none⟩)), (5, .pointer (some ⟨b6, 0, none⟩))] [(1000, Ob.box b3 [.int .i64 (m_.Top), .int .i64 (m_.Index), .slice (Ap03) ((m_.Vars).length) (cp03), .slice (Ap04) ((m_.Rels).length) (cp04), .slice (Ap05) ((m_.Cons).length) (cp05)] 26), (1001, Ob.box b4 [.int .i64 (0), .int .i64 (0), .slice (none) (0) (0), .slice (none) (0) (0), .slice (none) (0) (0), .slice (none) (0) (0), .slice (none) (0) (0)] 59), (1104, Ob.box b6 [.int .i64 (m_.Top), .int .i64 (m_.Index), .slice (Ap03) ((m_.Vars).length) (cp03), .slice (Ap04) ((m_.Rels).length) (cp04), .slice (Ap05) ((m_.Cons).length) (cp05), .slice (A8) ((t_7).length) (c9), .slice (A23) ((b_22).length) (c24)] 59), (700109, Ob.row (A23) ((b_22).length) (c24) 3 1 (cs25))] [(101, slF Rep.str (Ap03) ((m_.Vars).length) (cp03) (m_.Vars)), (102, slF REP (Ap04) ((m_.Rels).length) (cp04) (m_.Rels)), (103, slF RQeq (Ap05) ((m_.Cons).length) (cp05) (m_.Cons)), (104, slF (Rep.num .i64) (Ap11) ((plug_).length) (cp11) (plug_)), (105, slF (Rep.num .i64) (A8) ((t_7).length) (c9) (t_7)), (110, rdF (Rep.num .i64) (cs25) (b_22))] a w) ?_ ?_
 ·apply wp_block
  replace hS := hS.nilRow 700111 3 1 rfl
  replace hS := hS.add 112 (rdF (Rep.num .i64) [] []) (RdAll.nil _ _ _)
  refine c_loop (σ := Nat) (fun m1 a w => ∃ (t_26 : Nat), ∃ (b_27 : (List Int)), ∃ (A28 : Option Addr), ∃ (c29 : Nat), ∃ (cs30 : List Value), scope_plugged_L0 n m_ t_7 k21 m1 t_26 b_27 = some r ∧ St (⟨Try.f29.ntmps, M, noB, w0⟩ : Ctx) [(1, .slice (Ap11) ((plug_).length) (cp11)), (2, .pointer (some ⟨b3, 0, none⟩)), (4, .pointer (some ⟨b4, 0, none⟩)), (5, .pointer (some ⟨b6, 0, none⟩)), (16, .int .i64 ((((m_.Vars).length : Nat) : Int))), (17, .int .i64 (((t_26 : Nat) : Int)))] [(1000, Ob.box b3 [.int .i64 (m_.Top), .int .i64 (m_.Index), .slice (Ap03) ((m_.Vars).length) (cp03), .slice (Ap04) ((m_.Rels).length) (cp04), .slice (Ap05) ((m_.Cons).length) (cp05)] 26), (1001, Ob.box b4 [.int .i64 (0), .int .i64 (0), .slice (none) (0) (0), .slice (none) (0) (0), .slice (none) (0) (0), .slice (none) (0) (0), .slice (none) (0) (0)] 59), (1104, Ob.box b6 [.int .i64 (m_.Top), .int .i64 (m_.Index), .slice (Ap03) ((m_.Vars).length) (cp03), .slice (Ap04) ((m_.Rels).length) (cp04), .slice (Ap05) ((m_.Cons).length) (cp05), .slice (A8) ((t_7).length) (c9), .slice (A28) ((b_27).length) (c29)] 59), (700111, Ob.row (A28) ((b_27).length) (c29) 3 1 (cs30))] [(101, slF Rep.str (Ap03) ((m_.Vars).length) (cp03) (m_.Vars)), (102, slF REP (Ap04) ((m_.Rels).length) (cp04) (m_.Rels)), (103, slF RQeq (Ap05) ((m_.Cons).length) (cp05) (m_.Cons)), (104, slF (Rep.num .i64) (Ap11) ((plug_).length) (cp11) (plug_)), (105, slF (Rep.num .i64) (A8) ((t_7).length) (c9) (t_7)), (112, rdF (Rep.num .i64) (cs30) (b_27))] a w) (fun m1 => m1) n ⟨(0), ([]), (none), (0), ([]), hg, (hS.sb rfl rfl rfl)⟩ ?_
  clear hS a; rintro m1 a w ⟨t_26, b_27, A28, c29, cs30, hg, hS⟩
  rcases m1 with _ | m1
  ·rw [scope_plugged_L0] at hg; cases hg
  rw [scope_plugged_L0] at hg
  apply wR
  refine qq hS rfl (y_lssN (i := t_26) (j := ((m_.Vars).length)) hS rfl rfl) fun a hS => ?_
  apply wN
  apply wp_seq
  refine c_dec hS rfl (fun hc31 => ?_) (fun hc31 => ?_)
  ·replace hg := br_t hg hc31
   have hmx32 := SlR.mx (hS.fact (k := 101) rfl)
   apply wp_skip
   refine p_norm ?_
   apply wp_seq
   apply wp_block
   apply wR
   refine qq hS rfl (y_move hS rfl) fun a hS => ?_
   refine qq hS rfl (y_assign hS rfl) fun a hS => ?_
   apply wN
   apply wR
   refine qq hS rfl (y_assign hS rfl) fun a hS => ?_
   apply wN
   apply wp_seq
   apply wp_seq
   obtain ⟨r33, hr33, hg⟩ := bind_some hg
   apply wp_region_lit
   refine qq hS rfl (y_boxField (o' := 5) hS rfl Try.underlying59 rfl rfl rfl) fun a hS => ?_
   refine qq hS rfl (y_loadBox1 (kk := 1104) hS rfl rfl rfl Try.underlying33 rfl) fun a hS => ?_
   refine qq hS rfl (y_move hS rfl) fun a hS => ?_
   refine l_seq rfl (l_call (cap := []) hS rfl Try.func23 rfl (by kernel_rfl) rfl rfl (c_slices_Contains_int n _ _ hS.lt t_7 (A8) (c9) (hS.fact (k := 105) rfl) ((t_26 : Nat) : Int) r33 hr33) ?_); clear hS a; intro v36 a w hK hp hS
   clear hK
   obtain rfl := hp
   apply wN
   obtain ⟨k38, hg, hk38⟩ := jn_some hg
   refine c_post (fun a w => ∃ (l_39 : Int), k38 l_39 = some r ∧ St (⟨Try.f29.ntmps, M, noB, w0⟩ : Ctx) [(1, .slice (Ap11) ((plug_).length) (cp11)), (2, .pointer (some ⟨b3, 0, none⟩)), (4, .pointer (some ⟨b4, 0, none⟩)), (5, .pointer (some ⟨b6, 0, none⟩)), (7, .int .i64 (l_39)), (16, .int .i64 ((((m_.Vars).length : Nat) : Int))), (17, .int .i64 (((t_26 : Nat) : Int)))] [(1000, Ob.box b3 [.int .i64 (m_.Top), .int .i64 (m_.Index), .slice (Ap03) ((m_.Vars).length) (cp03), .slice (Ap04) ((m_.Rels).length) (cp04), .slice (Ap05) ((m_.Cons).length) (cp05)] 26), (1001, Ob.box b4 [.int .i64 (0), .int .i64 (0), .slice (none) (0) (0), .slice (none) (0) (0), .slice (none) (0) (0), .slice (none) (0) (0), .slice (none) (0) (0)] 59), (1104, Ob.box b6 [.int .i64 (m_.Top), .int .i64 (m_.Index), .slice (Ap03) ((m_.Vars).length) (cp03), .slice (Ap04) ((m_.Rels).length) (cp04), .slice (Ap05) ((m_.Cons).length) (cp05), .slice (A8) ((t_7).length) (c9), .slice (A28) ((b_27).length) (c29)] 59), (700111, Ob.row (A28) ((b_27).length) (c29) 3 1 (cs30))] [(101, slF Rep.str (Ap03) ((m_.Vars).length) (cp03) (m_.Vars)), (102, slF REP (Ap04) ((m_.Rels).length) (cp04) (m_.Rels)), (103, slF RQeq (Ap05) ((m_.Cons).length) (cp05) (m_.Cons)), (104, slF (Rep.num .i64) (Ap11) ((plug_).length) (cp11) (plug_)), (105, slF (Rep.num .i64) (A8) ((t_7).length) (c9) (t_7)), (112, rdF (Rep.num .i64) (cs30) (b_27))] a w) ?_ ?_
   ·refine c_cond hS rfl (fun hc40 => ?_) (fun hc40 => ?_)
    ·replace hg := br_t hg hc40
     apply wp_region_lit
     refine qq hS rfl (y_move hS rfl) fun a hS => ?_
     refine qq hS rfl (y_assign hS rfl) fun a hS => ?_
     apply wN
     exact ⟨(((t_26 : Nat) : Int)), hg, (hS.sb rfl rfl rfl)⟩
    ·replace hg := br_f hg (by rw [hc40]; exact Bool.false_ne_true)
     apply wp_skip
     refine p_norm ?_
     exact ⟨(-1), hg, (hS.sb rfl rfl rfl)⟩
   clear hS a; rintro a w ⟨l_39, hg, hS⟩
   subst hk38
   obtain ⟨hk42, hg⟩ := chk_some hg
   apply wp_region_lit
   refine qq hS rfl (y_boxField (o' := 6) hS rfl Try.underlying59 rfl rfl rfl) fun a hS => ?_
   refine qq hS rfl (y_loadBox1 (kk := 1104) hS rfl rfl rfl Try.underlying33 rfl) fun a hS => ?_
   refine qq hS rfl (y_move hS rfl) fun a hS => ?_
   refine l_seq rfl (l_buildDense (sz := 1) hS 1803 rfl rfl rfl Try.underlying33 rfl rfl rfl rfl rfl rfl rfl ?_); clear hS a; intro b45 a w hbb45 hK hS
   clear hbb45 hK
   replace hS := hS.add 115 (rdF (Rep.num .i64) (cellsOfL [.int .i64 (l_39)]) ([l_39])) (RdAll.cons (by exact rfl) (RdAll.nil _ _ _))
   have hs47 := row_src (hS.wd.holds 1803 _ rfl) (RdAll.one (hS.fact (k := 115) rfl))
   refine l_seq rfl (l_append (sz := 1) (by_ := 8) (N := (b_27 ++ [l_39]).length) (ys := cs30 ++ (cellsOfL [.int .i64 (l_39)])) hS 700111 rfl rfl rfl Try.underlying33 rfl rfl rfl rfl rfl hs47 (by simp) rfl (by have hr := hk42; clear hg; first | omega | (simp only [List.length_append, List.length_cons, List.length_nil] at hr ⊢; omega) | (simp at hr ⊢; omega)) (by have hr := hk42; clear hg; first | omega | (simp only [List.length_append, List.length_cons, List.length_nil] at hr ⊢; omega) | (simp at hr ⊢; omega)) rfl ?_); clear hS a; intro Aq46 cq46 a w hA hK hS
   clear hK hA
   replace hS := hS.add 116 (rdF (Rep.num .i64) (cs30 ++ (cellsOfL [.int .i64 (l_39)])) (b_27 ++ [l_39])) (RdAll.append (hS.fact (k := 112) rfl) (hS.fact (k := 115) rfl))
   refine qq hS rfl (y_boxField (o' := 6) hS rfl Try.underlying59 rfl rfl rfl) fun a hS => ?_
   refine l_seq rfl (l_store (n := 1) (cs' := [.int .i64 (m_.Top), .int .i64 (m_.Index), .slice (Ap03) ((m_.Vars).length) (cp03), .slice (Ap04) ((m_.Rels).length) (cp04), .slice (Ap05) ((m_.Cons).length) (cp05), .slice (A8) ((t_7).length) (c9), .slice (Aq46) ((b_27 ++ [l_39]).length) (cq46)]) hS 1104 rfl rfl rfl rfl rfl rfl rfl rfl ?_); clear hS; intro w hK hS; clear hK
   apply wpList_nil
   refine p_inN ?_
   refine p_norm ?_
   apply wp_region_lit
   refine qq hS rfl (y_addN (i := t_26) (j := 1) hS rfl rfl (in64.2 (by omega))) fun a hS => ?_
   refine qq hS rfl (y_move hS rfl) fun a hS => ?_
   apply wN
   replace hS := hS.al 112 116 rfl
   exact ⟨m1, Nat.lt_succ_self _, ⟨(t_26 + 1), (b_27 ++ [l_39]), (Aq46), (cq46), (cs30 ++ (cellsOfL [.int .i64 (l_39)])), hg, (hS.sb rfl rfl rfl)⟩⟩
  ·replace hg := br_f hg hc31
   apply wp_exit
   refine p_then ?_
   refine p_then ?_
   refine p_in ?_
   refine p_norm ?_
   replace hS := hS.al 110 112 rfl
   replace hS := hS.pk [(1000, 1000), (1001, 1001), (1104, 1104), (700109, 700111)] (by decide)
   exact ⟨(b_27), (A28), (c29), (cs30), hg, (hS.sb rfl rfl rfl)⟩
 clear hS a; rintro a w ⟨b_22, A23, c24, cs25, hg, hS⟩
 subst hk21
 apply wp_seq
 apply wp_seq
 obtain ⟨r48, hr48, hg⟩ := bind_some hg
 apply wp_region_lit
 refine qq hS rfl (y_loadBox (kk := 1000) (n := 5) (vs := [.int .i64 (m_.Top), .int .i64 (m_.Index), .slice (Ap03) ((m_.Vars).length) (cp03), .slice (Ap04) ((m_.Rels).length) (cp04), .slice (Ap05) ((m_.Cons).length) (cp05)]) hS rfl rfl Try.underlying26 rfl rfl rfl rfl) fun a hS => ?_
 refine l_seq rfl (l_call (cap := []) hS rfl Try.func10 rfl (by kernel_rfl) rfl rfl (c_scope_Holes n _ _ hS.lt m_ (Ap03) (cp03) (Ap04) (cp04) (Ap05) (cp05) (hS.fact (k := 101) rfl) (hS.fact (k := 102) rfl) (hS.fact (k := 103) rfl) r48 hr48) ?_); clear hS a; intro v51 a w hK hp hS
 clear hK
 obtain ⟨Au52a1, cu52a1, rfl, hu52a1⟩ := hp
 replace hS := hS.add 118 (slF (Rep.num .i64) (Au52a1) ((r48).length) (cu52a1) (r48)) hu52a1
 refine qq hS rfl (y_lenSlice hS rfl Try.underlying33) fun a hS => ?_
 refine qq hS rfl (y_move hS rfl) fun a hS => ?_
 apply wN
 obtain ⟨k53, hg, hk53⟩ := jn_some hg
 refine c_post (fun a w => ∃ (b_54 : (List Int)), ∃ (A55 : Option Addr), ∃ (c56 : Nat), ∃ (cs57 : List Value), k53 b_54 = some r ∧ St (⟨Try.f29.ntmps, M, noB, w0⟩ : Ctx) [(4, .pointer (some ⟨b4, 0, none⟩)), (5, .pointer (some ⟨b6, 0, none⟩))] [(1001, Ob.box b4 [.int .i64 (0), .int .i64 (0), .slice (none) (0) (0), .slice (none) (0) (0), .slice (none) (0) (0), .slice (none) (0) (0), .slice (none) (0) (0)] 59), (1104, Ob.box b6 [.int .i64 (m_.Top), .int .i64 (m_.Index), .slice (Ap03) ((m_.Vars).length) (cp03), .slice (Ap04) ((m_.Rels).length) (cp04), .slice (Ap05) ((m_.Cons).length) (cp05), .slice (A8) ((t_7).length) (c9), .slice (A55) ((b_54).length) (c56)] 59), (700119, Ob.row (A55) ((b_54).length) (c56) 3 1 (cs57))] [(101, slF Rep.str (Ap03) ((m_.Vars).length) (cp03) (m_.Vars)), (102, slF REP (Ap04) ((m_.Rels).length) (cp04) (m_.Rels)), (103, slF RQeq (Ap05) ((m_.Cons).length) (cp05) (m_.Cons)), (105, slF (Rep.num .i64) (A8) ((t_7).length) (c9) (t_7)), (120, rdF (Rep.num .i64) (cs57) (b_54))] a w) ?_ ?_
 ·apply wp_block
  replace hS := hS.al 122 110 rfl
  replace hS := hS.pk [(1000, 1000), (1001, 1001), (1104, 1104), (700121, 700109)] (by decide)
  refine c_loop (σ := Nat) (fun m2 a w => ∃ (t_58 : Nat), ∃ (b_59 : (List Int)), ∃ (A60 : Option Addr), ∃ (c61 : Nat), ∃ (cs62 : List Value), scope_plugged_L1 n plug_ r48 k53 m2 t_58 b_59 = some r ∧ St (⟨Try.f29.ntmps, M, noB, w0⟩ : Ctx) [(1, .slice (Ap11) ((plug_).length) (cp11)), (4, .pointer (some ⟨b4, 0, none⟩)), (5, .pointer (some ⟨b6, 0, none⟩)), (33, .slice (Au52a1) ((r48).length) (cu52a1)), (34, .int .i64 ((((r48).length : Nat) : Int))), (35, .int .i64 (((t_58 : Nat) : Int)))] [(1001, Ob.box b4 [.int .i64 (0), .int .i64 (0), .slice (none) (0) (0), .slice (none) (0) (0), .slice (none) (0) (0), .slice (none) (0) (0), .slice (none) (0) (0)] 59), (1104, Ob.box b6 [.int .i64 (m_.Top), .int .i64 (m_.Index), .slice (Ap03) ((m_.Vars).length) (cp03), .slice (Ap04) ((m_.Rels).length) (cp04), .slice (Ap05) ((m_.Cons).length) (cp05), .slice (A8) ((t_7).length) (c9), .slice (A60) ((b_59).length) (c61)] 59), (700121, Ob.row (A60) ((b_59).length) (c61) 3 1 (cs62))] [(101, slF Rep.str (Ap03) ((m_.Vars).length) (cp03) (m_.Vars)), (102, slF REP (Ap04) ((m_.Rels).length) (cp04) (m_.Rels)), (103, slF RQeq (Ap05) ((m_.Cons).length) (cp05) (m_.Cons)), (104, slF (Rep.num .i64) (Ap11) ((plug_).length) (cp11) (plug_)), (105, slF (Rep.num .i64) (A8) ((t_7).length) (c9) (t_7)), (118, slF (Rep.num .i64) (Au52a1) ((r48).length) (cu52a1) (r48)), (122, rdF (Rep.num .i64) (cs62) (b_59))] a w) (fun m2 => m2) n ⟨(0), (b_22), (A23), (c24), (cs25), hg, (hS.sb rfl rfl rfl)⟩ ?_
  clear hS a; rintro m2 a w ⟨t_58, b_59, A60, c61, cs62, hg, hS⟩
  rcases m2 with _ | m2
  ·rw [scope_plugged_L1] at hg; cases hg
  rw [scope_plugged_L1] at hg
  apply wR
  refine qq hS rfl (y_lssN (i := t_58) (j := ((r48).length)) hS rfl rfl) fun a hS => ?_
  apply wN
  apply wp_seq
  refine c_dec hS rfl (fun hc63 => ?_) (fun hc63 => ?_)
  ·replace hg := br_t hg hc63
   have hmx64 := SlR.mx (hS.fact (k := 118) rfl)
   apply wp_skip
   refine p_norm ?_
   apply wp_seq
   apply wp_block
   apply wp_seq
   obtain ⟨x66, hx66, hg⟩ := bind_some hg
   apply wp_region_lit
   refine qq hS rfl (y_move hS rfl) fun a hS => ?_
   obtain ⟨p68, hep68, hpp68⟩ := SlR.elemX (hS.fact (k := 118) rfl) hx66
   refine qq hS rfl (y_elem (sz := 1) (i := t_58) hS rfl rfl Try.underlying33 rfl hep68 rfl (lt_of_get hx66)) fun a hS => ?_
   obtain ⟨hlq69, hmq69, csq69, hdq69, hcq69⟩ := hpp68
   obtain rfl := hdq69
   refine qq hS rfl (y_ldp1 hS rfl hlq69 hmq69 (hcq69 0 _ rfl) Try.underlying3 rfl) fun a hS => ?_
   refine qq hS rfl (y_assign hS rfl) fun a hS => ?_
   refine qq hS rfl (y_assign hS rfl) fun a hS => ?_
   apply wN
   obtain ⟨x71, hx71, hg⟩ := bind_some hg
   obtain ⟨x74, hx74, hg⟩ := bind_some hg
   refine d_plan hS [(8, 700121)] [(0, some 0), (1, some 1104), (2, some 0), (3, some 0), (4, some 0), (5, some 0), (6, some 0), (7, some 0), (8, none)] rfl (by kernel_rfl) (by kernel_rfl) rfl ?_; clear hS; intro wr hZ hS; have hR := hS.wd
   refine q_take hS hR rfl rfl rfl rfl (y_boxField (o' := 6) hS rfl Try.underlying59 rfl rfl rfl) fun a hS => ?_
   refine q_take hS hR rfl rfl rfl rfl (y_loadBox1 (kk := 1104) hS rfl rfl rfl Try.underlying33 rfl) fun a hS => ?_
   refine q_take hS hR rfl rfl rfl rfl (y_move hS rfl) fun a hS => ?_
   refine q_take hS hR rfl rfl rfl rfl (y_move hS rfl) fun a hS => ?_
   refine q_take hS hR rfl rfl rfl rfl (y_move hS rfl) fun a hS => ?_
   obtain ⟨p75, hep75, hpp75⟩ := SlR.elemX (hS.fact (k := 104) rfl) hx71
   refine q_take hS hR rfl rfl rfl rfl (y_elem (sz := 1) (i := t_58) hS rfl rfl Try.underlying33 rfl hep75 rfl (lt_of_get hx71)) fun a hS => ?_
   obtain ⟨hlq76, hmq76, csq76, hdq76, hcq76⟩ := hpp75
   obtain rfl := hdq76
   refine q_take hS hR rfl rfl rfl rfl (y_ldp1 hS rfl hlq76 hmq76 (hcq76 0 _ rfl) Try.underlying3 rfl) fun a hS => ?_
   obtain ⟨hiq77, bq77, hAq77⟩ := SlR.row1 (hS.wd.holds 700121 _ rfl) (hS.fact (k := 122) rfl) rfl rfl (ix_some hx74).1
   refine q_take hS hR rfl rfl rfl rfl (y_rowIndex (sz := 1) (i := ((x66).toNat)) hS rfl rfl Try.underlying33 rfl hAq77 (ix_some hx74).2.1 hiq77) fun a hS => ?_
   have hzi := lt_of_get (ix_some hx74).1
   have hzn := rowN (hS.wd.holds 700121 _ rfl) (hS.fact (k := 122) rfl) rfl rfl
   have hzf : ((x66).toNat) * 1 + 1 ≤ ((b_59).length) * 1 := by have := Nat.mul_le_mul_right 1 (Nat.succ_le_of_lt hzi); omega
   refine l_take hS rfl rfl (l_storeRow (N := 1) (cs' := splice (cs62) (((x66).toNat) * 1) [.int .i64 (x71)]) hS 700121 rfl rfl rfl hAq77 rfl rfl hzf rfl rfl ?_); clear hS; intro w hK hS; replace hZ := Nat.le_trans hZ hK.size
   refine ⟨fun g hg h => h.obj hR (kk := 700121) rfl hK (by rintro rfl; exact absurd hg (by decide)), ?_⟩; clear hK
   replace hS := hS.sub (l' := [(1, .slice (Ap11) ((plug_).length) (cp11)), (4, .pointer (some ⟨b4, 0, none⟩)), (5, .pointer (some ⟨b6, 0, none⟩)), (8, .int .i64 (((t_58 : Nat) : Int))), (9, .int .i64 (x66)), (33, .slice (Au52a1) ((r48).length) (cu52a1)), (34, .int .i64 ((((r48).length : Nat) : Int))), (35, .int .i64 (((t_58 : Nat) : Int))), (36, .bool (decide (t_58 < ((r48).length)))), (37, .int .i64 (((t_58 : Nat) : Int))), (38, .pointer (some (p68.add 0))), (39, .int .i64 (x66)), (40, .pointer (some ⟨b6, 6, none⟩)), (41, .slice (A60) ((b_59).length) (c61)), (42, .int .i64 (x66)), (43, .slice (Ap11) ((plug_).length) (cp11)), (44, .int .i64 (((t_58 : Nat) : Int))), (45, .pointer (some (p75.add 0))), (46, .int .i64 (x71)), (47, .pointer (some ⟨bq77, ((x66).toNat) * 1, none⟩))]) (L' := [(1001, Ob.box b4 [.int .i64 (0), .int .i64 (0), .slice (none) (0) (0), .slice (none) (0) (0), .slice (none) (0) (0), .slice (none) (0) (0), .slice (none) (0) (0)] 59), (1104, Ob.box b6 [.int .i64 (m_.Top), .int .i64 (m_.Index), .slice (Ap03) ((m_.Vars).length) (cp03), .slice (Ap04) ((m_.Rels).length) (cp04), .slice (Ap05) ((m_.Cons).length) (cp05), .slice (A8) ((t_7).length) (c9), .slice (A60) ((b_59).length) (c61)] 59), (700121, Ob.row (A60) ((b_59).length) (c61) 3 1 (splice (cs62) (((x66).toNat) * 1) [.int .i64 (x71)]))]) (D' := [(101, slF Rep.str (Ap03) ((m_.Vars).length) (cp03) (m_.Vars)), (102, slF REP (Ap04) ((m_.Rels).length) (cp04) (m_.Rels)), (103, slF RQeq (Ap05) ((m_.Cons).length) (cp05) (m_.Cons)), (104, slF (Rep.num .i64) (Ap11) ((plug_).length) (cp11) (plug_)), (105, slF (Rep.num .i64) (A8) ((t_7).length) (c9) (t_7)), (118, slF (Rep.num .i64) (Au52a1) ((r48).length) (cu52a1) (r48)), (122, rdF (Rep.num .i64) (cs62) (b_59))]) ⟨rfl, rfl, rfl, rfl, rfl, rfl, rfl, rfl, rfl, rfl, rfl, rfl, rfl, rfl, rfl, rfl, rfl, rfl, rfl, rfl, trivial⟩ ⟨rfl, rfl, rfl, trivial⟩ ⟨rfl, rfl, rfl, rfl, rfl, rfl, rfl, trivial⟩
   replace hS := hS.eqs (l' := [(1, .slice (Ap11) ((plug_).length) (cp11)), (4, .pointer (some ⟨b4, 0, none⟩)), (5, .pointer (some ⟨b6, 0, none⟩)), (8, .int .i64 (((t_58 : Nat) : Int))), (9, .int .i64 (x66)), (33, .slice (Au52a1) ((r48).length) (cu52a1)), (34, .int .i64 ((((r48).length : Nat) : Int))), (35, .int .i64 (((t_58 : Nat) : Int))), (36, .bool (decide (t_58 < ((r48).length)))), (37, .int .i64 (((t_58 : Nat) : Int))), (38, .pointer (some (p68.add 0))), (39, .int .i64 (x66)), (40, .pointer (some ⟨b6, 6, none⟩)), (41, .slice (A60) (((b_59).set ((x66).toNat) x71).length) (c61)), (42, .int .i64 (x66)), (43, .slice (Ap11) ((plug_).length) (cp11)), (44, .int .i64 (((t_58 : Nat) : Int))), (45, .pointer (some (p75.add 0))), (46, .int .i64 (x71)), (47, .pointer (some ⟨bq77, ((x66).toNat) * 1, none⟩))]) (L' := [(1001, Ob.box b4 [.int .i64 (0), .int .i64 (0), .slice (none) (0) (0), .slice (none) (0) (0), .slice (none) (0) (0), .slice (none) (0) (0), .slice (none) (0) (0)] 59), (1104, Ob.box b6 [.int .i64 (m_.Top), .int .i64 (m_.Index), .slice (Ap03) ((m_.Vars).length) (cp03), .slice (Ap04) ((m_.Rels).length) (cp04), .slice (Ap05) ((m_.Cons).length) (cp05), .slice (A8) ((t_7).length) (c9), .slice (A60) (((b_59).set ((x66).toNat) x71).length) (c61)] 59), (700121, Ob.row (A60) (((b_59).set ((x66).toNat) x71).length) (c61) 3 1 (splice (cs62) (((x66).toNat) * 1) [.int .i64 (x71)]))]) (by simp only [List.length_set]) (by simp only [List.length_set])
   replace hS := hS.add 124 (rdF (Rep.num .i64) (splice (cs62) (((x66).toNat) * 1) [.int .i64 (x71)]) ((b_59).set ((x66).toNat) x71)) (RdAll.put (hS.fact (k := 122) rfl) rfl hzi)
   clear hR hZ
   refine p_inN ?_
   refine p_norm ?_
   apply wp_region_lit
   refine qq hS rfl (y_addN (i := t_58) (j := 1) hS rfl rfl (in64.2 (by omega))) fun a hS => ?_
   refine qq hS rfl (y_move hS rfl) fun a hS => ?_
   apply wN
   replace hS := hS.add 122 (rdF (Rep.num .i64) (splice (cs62) (((x66).toNat) * 1) [.int .i64 (x71)]) ((b_59).set ((x66).toNat) x71)) (hS.fact (k := 124) rfl)
   exact ⟨m2, Nat.lt_succ_self _, ⟨(t_58 + 1), ((b_59).set ((x66).toNat) x71), (A60), (c61), (splice (cs62) (((x66).toNat) * 1) [.int .i64 (x71)]), hg, (hS.sb rfl rfl rfl)⟩⟩
  ·replace hg := br_f hg hc63
   apply wp_exit
   refine p_then ?_
   refine p_then ?_
   refine p_in ?_
   refine p_norm ?_
   replace hS := hS.al 120 122 rfl
   replace hS := hS.pk [(1001, 1001), (1104, 1104), (700119, 700121)] (by decide)
   exact ⟨(b_59), (A60), (c61), (cs62), hg, (hS.sb rfl rfl rfl)⟩
 clear hS a; rintro a w ⟨b_54, A55, c56, cs57, hg, hS⟩
 subst hk53
 apply wR
 refine qq hS rfl (y_loadBox (kk := 1104) (n := 7) (vs := [.int .i64 (m_.Top), .int .i64 (m_.Index), .slice (Ap03) ((m_.Vars).length) (cp03), .slice (Ap04) ((m_.Rels).length) (cp04), .slice (Ap05) ((m_.Cons).length) (cp05), .slice (A8) ((t_7).length) (c9), .slice (A55) ((b_54).length) (c56)]) hS rfl rfl Try.underlying59 rfl rfl rfl rfl) fun a hS => ?_
 refine l_seq rfl (l_store (n := 7) (cs' := [.int .i64 (m_.Top), .int .i64 (m_.Index), .slice (Ap03) ((m_.Vars).length) (cp03), .slice (Ap04) ((m_.Rels).length) (cp04), .slice (Ap05) ((m_.Cons).length) (cp05), .slice (A8) ((t_7).length) (c9), .slice (A55) ((b_54).length) (c56)]) hS 1001 rfl rfl rfl rfl rfl rfl rfl rfl ?_); clear hS; intro w hK hS; clear hK
 apply wN
 apply wp_ret
 obtain rfl := Option.some.inj hg
 refine fin1 (fn := Try.f29) hS rfl (r_cell (kk := 1001) (n := 7) (vs := [.int .i64 (m_.Top), .int .i64 (m_.Index), .slice (Ap03) ((m_.Vars).length) (cp03), .slice (Ap04) ((m_.Rels).length) (cp04), .slice (Ap05) ((m_.Cons).length) (cp05), .slice (A8) ((t_7).length) (c9), .slice (A55) ((b_54).length) (c56)]) hS rfl rfl Try.underlying59 rfl rfl rfl rfl) ?_
 exact ⟨(Ap03), (cp03), (Ap04), (cp04), (Ap05), (cp05), (A8), (c9), (A55), (c56), rfl, (hS.out (k := 101) rfl), (hS.out (k := 102) rfl), (hS.out (k := 103) rfl), (hS.out (k := 105) rfl), (hS.rowOut (R := (Rep.num .i64)) (kk := 700119) rfl rfl (hS.fact (k := 120) rfl))⟩
end Go.Proofs.Ytdicfdfncbmmpaa
