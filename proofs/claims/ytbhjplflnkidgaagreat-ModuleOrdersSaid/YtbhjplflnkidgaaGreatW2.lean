/- Chapter 22: the walks, part 2 -/
import Derived.Test.YtbhjplflnkidgaaGreatW1
namespace Go.Proofs.YtbhjplflnkidgaaGreat
open Go.Gl Go.RowKit Tryz
set_option linter.unusedVariables false
set_option linter.unusedSimpArgs false
set_option maxRecDepth 4000

set_option maxHeartbeats 1000000 in
theorem c_r01_Word (n : Nat) (M : Bs) (w0 : World) (hM : ∀ b, M b → b < w0.heap.size) (s_ : (List UInt8)) (lp01 : (s_).length ≤ 9223372036854775807) (r : Bool) (hg : r01_Word n s_ = some r) :
    Calls Tryz.prog 114 [.string (bs (s_))].toArray w0 (Ret noB w0 fun v w => v = .bool (r)) := by
 unfold r01_Word at hg
 refine enter M noB func114 rfl rfl hM ?_
 intro a s
 apply wR
 refine asg s rfl rfl fun a s => ?_
 apply wN
 apply wQ
 apply wQ
 obtain ⟨k1, hg, hk1⟩ := jn_some hg
 refine c_post (fun a w => ∃ (t_2 : Bool), k1 t_2 = some r ∧ St (cx f114 M w0) [(0, vT s_), (11, .bool (t_2))] [] [] a w) ?_ ?_
 ·rcases Decidable.em (((s_).length) < 1) with hs3 | hs3
  ·have hs3e := decide_eq_true hs3
   replace hg := br_t hg hs3
   apply wL
   refine mv s rfl rfl fun a s => ?_
   refine qq s rfl (y_lenStrN s rfl underlying9) fun a s => ?_
   refine qq s rfl (yl_b (y_lssN (i := ((s_).length)) (j := 1) s rfl rfl) hs3e) fun a s => ?_
   refine mv s rfl rfl fun a s => ?_
   refine gn s rfl fun a s => ?_
   refine gn s rfl fun a s => ?_
   refine gn s rfl fun a s => ?_
   refine qq s rfl (y_pick_t s rfl rfl) fun a s => ?_
   apply wN
   exact ⟨(true), hg, (s.sb rfl rfl rfl)⟩
  have hs3e := decide_eq_false hs3
  replace hg := br_f hg hs3
  apply wL
  refine mv s rfl rfl fun a s => ?_
  refine qq s rfl (y_lenStrN s rfl underlying9) fun a s => ?_
  refine qq s rfl (yl_b (y_lssN (i := ((s_).length)) (j := 1) s rfl rfl) hs3e) fun a s => ?_
  refine mv s rfl rfl fun a s => ?_
  refine gm s rfl rfl fun a s => ?_
  refine gy s rfl (y_lenStrN s rfl underlying9) fun a s => ?_
  refine gy s rfl (y_gtrN (i := ((s_).length)) (j := 32) s rfl rfl) fun a s => ?_
  refine qq s rfl (y_pick_f s rfl rfl) fun a s => ?_
  apply wN
  exact ⟨(decide ((32 : Nat) < ((s_).length))), hg, (s.sb rfl rfl rfl)⟩
 clear s a; rintro a w ⟨t_2, hg, s⟩
 subst hk1
 refine c_cond s rfl (fun hc4 => ?_) (fun hc4 => ?_)
 ·replace hg := br_t hg hc4
  apply wR
  refine asg s rfl rfl fun a s => ?_
  apply wN
  apply wp_ret
  refine p_thenR ?_
  obtain rfl := Option.some.inj hg
  refine fin1 (fn := Tryz.f114) s rfl (r_tmp s rfl) ?_
  exact rfl
 replace hg := br_n hg hc4
 apply wp_skip
 apply pN
 apply wQ
 apply wR
 refine asg s rfl rfl fun a s => ?_
 apply wN
 apply wp_block
 refine c_loop (σ := Nat) (fun m1 a w => ∃ (i_5 : Nat), r01_Word_L0 n s_ m1 i_5 = some r ∧ St (cx f114 M w0) [(0, vT s_), (3, vI (((i_5 : Nat) : Int)))] [] [] a w) (fun m1 => m1) n ⟨(0), hg, (s.sb rfl rfl rfl)⟩ ?_
 clear s a; rintro m1 a w ⟨i_5, hg, s⟩
 rcases m1 with _ | m1
 ·rw [r01_Word_L0] at hg; cases hg
 rw [r01_Word_L0] at hg
 apply wQ
 apply wR
 refine mv s rfl rfl fun a s => ?_
 refine mv s rfl rfl fun a s => ?_
 refine qq s rfl (y_lenStrN s rfl underlying9) fun a s => ?_
 refine qq s rfl (y_lssN (i := i_5) (j := ((s_).length)) s rfl rfl) fun a s => ?_
 apply wN
 refine c_dec s rfl (fun hc6 => ?_) (fun hc6 => ?_)
 ·replace hg := br_t hg hc6
  have hmx7 : (s_).length ≤ 9223372036854775807 := (by omega)
  apply wp_skip
  apply pN
  apply wQ
  apply wp_block
  apply wQ
  obtain ⟨k8, hg, hk8⟩ := jn_some hg
  refine c_post (fun a w => ∃ (t_9 : Bool), k8 t_9 = some r ∧ St (cx f114 M w0) [(0, vT s_), (3, vI (((i_5 : Nat) : Int))), (45, .bool (t_9))] [] [] a w) ?_ ?_
  ·obtain ⟨c10, hc10, hg⟩ := bind_some hg
   rcases Decidable.em (c10.toNat < 33) with hs11 | hs11
   ·have hs11e := decide_eq_true hs11
    replace hg := br_t hg hs11
    apply wL
    refine mv s rfl rfl fun a s => ?_
    refine mv s rfl rfl fun a s => ?_
    refine qq s rfl (y_indexN (i := i_5) s rfl rfl underlying9 rfl hc10) fun a s => ?_
    refine qq s rfl (yl_b (y_lssN (i := c10.toNat) (j := 33) s rfl rfl) hs11e) fun a s => ?_
    refine mv s rfl rfl fun a s => ?_
    refine gn s rfl fun a s => ?_
    refine gn s rfl fun a s => ?_
    refine gn s rfl fun a s => ?_
    refine gn s rfl fun a s => ?_
    refine qq s rfl (y_pick_t s rfl rfl) fun a s => ?_
    refine mv s rfl rfl fun a s => ?_
    refine gn s rfl fun a s => ?_
    refine gn s rfl fun a s => ?_
    refine gn s rfl fun a s => ?_
    refine gn s rfl fun a s => ?_
    refine qq s rfl (y_pick_t s rfl rfl) fun a s => ?_
    refine mv s rfl rfl fun a s => ?_
    refine gn s rfl fun a s => ?_
    refine gn s rfl fun a s => ?_
    refine gn s rfl fun a s => ?_
    refine gn s rfl fun a s => ?_
    refine qq s rfl (y_pick_t s rfl rfl) fun a s => ?_
    refine mv s rfl rfl fun a s => ?_
    refine gn s rfl fun a s => ?_
    refine gn s rfl fun a s => ?_
    refine gn s rfl fun a s => ?_
    refine gn s rfl fun a s => ?_
    refine qq s rfl (y_pick_t s rfl rfl) fun a s => ?_
    apply wN
    exact ⟨(true), hg, (s.sb rfl rfl rfl)⟩
   have hs11e := decide_eq_false hs11
   replace hg := br_f hg hs11
   rcases Decidable.em ((126 : Nat) < c10.toNat) with hs12 | hs12
   ·have hs12e := decide_eq_true hs12
    replace hg := br_t hg hs12
    apply wL
    refine mv s rfl rfl fun a s => ?_
    refine mv s rfl rfl fun a s => ?_
    refine qq s rfl (y_indexN (i := i_5) s rfl rfl underlying9 rfl hc10) fun a s => ?_
    refine qq s rfl (yl_b (y_lssN (i := c10.toNat) (j := 33) s rfl rfl) hs11e) fun a s => ?_
    refine mv s rfl rfl fun a s => ?_
    refine gm s rfl rfl fun a s => ?_
    refine gm s rfl rfl fun a s => ?_
    refine gy s rfl (y_indexN (i := i_5) s rfl rfl underlying9 rfl hc10) fun a s => ?_
    refine gy s rfl (yl_b (y_gtrN (i := c10.toNat) (j := 126) s rfl rfl) hs12e) fun a s => ?_
    refine qq s rfl (y_pick_f s rfl rfl) fun a s => ?_
    refine mv s rfl rfl fun a s => ?_
    refine gn s rfl fun a s => ?_
    refine gn s rfl fun a s => ?_
    refine gn s rfl fun a s => ?_
    refine gn s rfl fun a s => ?_
    refine qq s rfl (y_pick_t s rfl rfl) fun a s => ?_
    refine mv s rfl rfl fun a s => ?_
    refine gn s rfl fun a s => ?_
    refine gn s rfl fun a s => ?_
    refine gn s rfl fun a s => ?_
    refine gn s rfl fun a s => ?_
    refine qq s rfl (y_pick_t s rfl rfl) fun a s => ?_
    refine mv s rfl rfl fun a s => ?_
    refine gn s rfl fun a s => ?_
    refine gn s rfl fun a s => ?_
    refine gn s rfl fun a s => ?_
    refine gn s rfl fun a s => ?_
    refine qq s rfl (y_pick_t s rfl rfl) fun a s => ?_
    apply wN
    exact ⟨(true), hg, (s.sb rfl rfl rfl)⟩
   have hs12e := decide_eq_false hs12
   replace hg := br_f hg hs12
   obtain ⟨r13, hr13, hg⟩ := bind_some hg
   rcases Bool.eq_false_or_eq_true (r13) with hs16 | hs16
   ·replace hg := br_t hg hs16
    apply wL
    refine mv s rfl rfl fun a s => ?_
    refine mv s rfl rfl fun a s => ?_
    refine qq s rfl (y_indexN (i := i_5) s rfl rfl underlying9 rfl hc10) fun a s => ?_
    refine qq s rfl (yl_b (y_lssN (i := c10.toNat) (j := 33) s rfl rfl) hs11e) fun a s => ?_
    refine mv s rfl rfl fun a s => ?_
    refine gm s rfl rfl fun a s => ?_
    refine gm s rfl rfl fun a s => ?_
    refine gy s rfl (y_indexN (i := i_5) s rfl rfl underlying9 rfl hc10) fun a s => ?_
    refine gy s rfl (yl_b (y_gtrN (i := c10.toNat) (j := 126) s rfl rfl) hs12e) fun a s => ?_
    refine qq s rfl (y_pick_f s rfl rfl) fun a s => ?_
    refine mv s rfl rfl fun a s => ?_
    refine gm s rfl rfl fun a s => ?_
    refine gm s rfl rfl fun a s => ?_
    refine gy s rfl (y_indexN (i := i_5) s rfl rfl underlying9 rfl hc10) fun a s => ?_
    refine gl s rfl (l_call (cap := []) s rfl func130 rfl (by kernel_rfl) rfl rfl (c_r01_upper n _ _ s.lt _ _ hr13) fun v17 a w hK hp s => ?_)
    obtain rfl := hp.trans (congrArg Value.bool hs16)
    refine qq s rfl (y_pick_f s rfl rfl) fun a s => ?_
    refine mv s rfl rfl fun a s => ?_
    refine gn s rfl fun a s => ?_
    refine gn s rfl fun a s => ?_
    refine gn s rfl fun a s => ?_
    refine gn s rfl fun a s => ?_
    refine qq s rfl (y_pick_t s rfl rfl) fun a s => ?_
    refine mv s rfl rfl fun a s => ?_
    refine gn s rfl fun a s => ?_
    refine gn s rfl fun a s => ?_
    refine gn s rfl fun a s => ?_
    refine gn s rfl fun a s => ?_
    refine qq s rfl (y_pick_t s rfl rfl) fun a s => ?_
    apply wN
    exact ⟨(true), hg, (s.sb rfl rfl rfl)⟩
   replace hg := br_n hg hs16
   rcases Decidable.em (c10.toNat = 34) with hs19 | hs19
   ·have hs19e := decide_eq_true hs19
    replace hg := br_t hg hs19
    apply wL
    refine mv s rfl rfl fun a s => ?_
    refine mv s rfl rfl fun a s => ?_
    refine qq s rfl (y_indexN (i := i_5) s rfl rfl underlying9 rfl hc10) fun a s => ?_
    refine qq s rfl (yl_b (y_lssN (i := c10.toNat) (j := 33) s rfl rfl) hs11e) fun a s => ?_
    refine mv s rfl rfl fun a s => ?_
    refine gm s rfl rfl fun a s => ?_
    refine gm s rfl rfl fun a s => ?_
    refine gy s rfl (y_indexN (i := i_5) s rfl rfl underlying9 rfl hc10) fun a s => ?_
    refine gy s rfl (yl_b (y_gtrN (i := c10.toNat) (j := 126) s rfl rfl) hs12e) fun a s => ?_
    refine qq s rfl (y_pick_f s rfl rfl) fun a s => ?_
    refine mv s rfl rfl fun a s => ?_
    refine gm s rfl rfl fun a s => ?_
    refine gm s rfl rfl fun a s => ?_
    refine gy s rfl (y_indexN (i := i_5) s rfl rfl underlying9 rfl hc10) fun a s => ?_
    refine gl s rfl (l_call (cap := []) s rfl func130 rfl (by kernel_rfl) rfl rfl (c_r01_upper n _ _ s.lt _ _ hr13) fun v20 a w hK hp s => ?_)
    obtain rfl := hp.trans (congrArg Value.bool hs16)
    refine qq s rfl (y_pick_f s rfl rfl) fun a s => ?_
    refine mv s rfl rfl fun a s => ?_
    refine gm s rfl rfl fun a s => ?_
    refine gm s rfl rfl fun a s => ?_
    refine gy s rfl (y_indexN (i := i_5) s rfl rfl underlying9 rfl hc10) fun a s => ?_
    refine gy s rfl (yl_b (y_eqlN (i := c10.toNat) (j := 34) s rfl rfl) hs19e) fun a s => ?_
    refine qq s rfl (y_pick_f s rfl rfl) fun a s => ?_
    refine mv s rfl rfl fun a s => ?_
    refine gn s rfl fun a s => ?_
    refine gn s rfl fun a s => ?_
    refine gn s rfl fun a s => ?_
    refine gn s rfl fun a s => ?_
    refine qq s rfl (y_pick_t s rfl rfl) fun a s => ?_
    apply wN
    exact ⟨(true), hg, (s.sb rfl rfl rfl)⟩
   have hs19e := decide_eq_false hs19
   replace hg := br_f hg hs19
   apply wL
   refine mv s rfl rfl fun a s => ?_
   refine mv s rfl rfl fun a s => ?_
   refine qq s rfl (y_indexN (i := i_5) s rfl rfl underlying9 rfl hc10) fun a s => ?_
   refine qq s rfl (yl_b (y_lssN (i := c10.toNat) (j := 33) s rfl rfl) hs11e) fun a s => ?_
   refine mv s rfl rfl fun a s => ?_
   refine gm s rfl rfl fun a s => ?_
   refine gm s rfl rfl fun a s => ?_
   refine gy s rfl (y_indexN (i := i_5) s rfl rfl underlying9 rfl hc10) fun a s => ?_
   refine gy s rfl (yl_b (y_gtrN (i := c10.toNat) (j := 126) s rfl rfl) hs12e) fun a s => ?_
   refine qq s rfl (y_pick_f s rfl rfl) fun a s => ?_
   refine mv s rfl rfl fun a s => ?_
   refine gm s rfl rfl fun a s => ?_
   refine gm s rfl rfl fun a s => ?_
   refine gy s rfl (y_indexN (i := i_5) s rfl rfl underlying9 rfl hc10) fun a s => ?_
   refine gl s rfl (l_call (cap := []) s rfl func130 rfl (by kernel_rfl) rfl rfl (c_r01_upper n _ _ s.lt _ _ hr13) fun v22 a w hK hp s => ?_)
   obtain rfl := hp.trans (congrArg Value.bool hs16)
   refine qq s rfl (y_pick_f s rfl rfl) fun a s => ?_
   refine mv s rfl rfl fun a s => ?_
   refine gm s rfl rfl fun a s => ?_
   refine gm s rfl rfl fun a s => ?_
   refine gy s rfl (y_indexN (i := i_5) s rfl rfl underlying9 rfl hc10) fun a s => ?_
   refine gy s rfl (yl_b (y_eqlN (i := c10.toNat) (j := 34) s rfl rfl) hs19e) fun a s => ?_
   refine qq s rfl (y_pick_f s rfl rfl) fun a s => ?_
   refine mv s rfl rfl fun a s => ?_
   refine gm s rfl rfl fun a s => ?_
   refine gm s rfl rfl fun a s => ?_
   refine gy s rfl (y_indexN (i := i_5) s rfl rfl underlying9 rfl hc10) fun a s => ?_
   refine gy s rfl (y_eqlN (i := c10.toNat) (j := 92) s rfl rfl) fun a s => ?_
   refine qq s rfl (y_pick_f s rfl rfl) fun a s => ?_
   apply wN
   exact ⟨(decide (c10.toNat = 92)), hg, (s.sb rfl rfl rfl)⟩
  clear s a; rintro a w ⟨t_9, hg, s⟩
  subst hk8
  refine c_cond s rfl (fun hc24 => ?_) (fun hc24 => ?_)
  ·replace hg := br_t hg hc24
   apply wR
   refine asg s rfl rfl fun a s => ?_
   apply wN
   apply wp_ret
   refine p_inR ?_
   refine p_thenR ?_
   refine p_thenR ?_
   refine p_inR ?_
   refine p_thenR ?_
   obtain rfl := Option.some.inj hg
   refine fin1 (fn := Tryz.f114) s rfl (r_tmp s rfl) ?_
   exact rfl
  replace hg := br_n hg hc24
  apply wp_skip
  refine p_inN ?_
  apply pN
  apply wL
  refine mv s rfl rfl fun a s => ?_
  refine qq s rfl (y_addN (i := i_5) (j := 1) s rfl rfl (in64.2 (by omega))) fun a s => ?_
  refine asg s rfl rfl fun a s => ?_
  apply wN
  exact ⟨m1, Nat.lt_succ_self _, ⟨(i_5 + 1), hg, (s.sb rfl rfl rfl)⟩⟩
 replace hg := br_f hg hc6
 apply wp_exit
 refine p_then ?_
 refine p_then ?_
 refine p_in ?_
 apply pN
 apply wR
 refine asg s rfl rfl fun a s => ?_
 apply wN
 apply wp_ret
 obtain rfl := Option.some.inj hg
 refine fin1 (fn := Tryz.f114) s rfl (r_tmp s rfl) ?_
 exact rfl
set_option maxHeartbeats 1000000 in
theorem c_r21_entriesError (n : Nat) (M : Bs) (w0 : World) (hM : ∀ b, M b → b < w0.heap.size) (l_ : (List EntryDecl)) (Ap01 : Option Addr) (cp01 : Nat) (hp01 : SlR REntryDecl M w0 Ap01 (l_).length cp01 (l_)) (r : Int) (hg : r21_entriesError n l_ = some r) :
    Calls Tryz.prog 83 [.slice (Ap01) ((l_).length) (cp01)].toArray w0 (Ret noB w0 fun v w => v = .int .i64 (r)) := by
 unfold r21_entriesError at hg
 refine enter M noB func83 rfl rfl hM ?_
 intro a s
 replace s := s.es 101 hp01
 apply wR
 refine asg s rfl rfl fun a s => ?_
 apply wN
 apply wQ
 apply wR
 refine asg s rfl rfl fun a s => ?_
 apply wN
 apply wp_block
 refine c_loop (σ := Nat) (fun m1 a w => ∃ (i_1 : Nat), r21_entriesError_L0 n l_ m1 i_1 = some r ∧ St (cx f83 M w0) [(0, sl Ap01 l_ cp01), (3, vI (((i_1 : Nat) : Int)))] [] [(101, sF REntryDecl Ap01 cp01 l_)] a w) (fun m1 => m1) n ⟨(0), hg, (s.sb rfl rfl rfl)⟩ ?_
 clear s a; rintro m1 a w ⟨i_1, hg, s⟩
 rcases m1 with _ | m1
 ·rw [r21_entriesError_L0] at hg; cases hg
 rw [r21_entriesError_L0] at hg
 apply wQ
 apply wR
 refine mv s rfl rfl fun a s => ?_
 refine mv s rfl rfl fun a s => ?_
 refine qq s rfl (y_lenSlice s rfl underlying34) fun a s => ?_
 refine qq s rfl (y_lssN (i := i_1) (j := ((l_).length)) s rfl rfl) fun a s => ?_
 apply wN
 refine c_dec s rfl (fun hc2 => ?_) (fun hc2 => ?_)
 ·replace hg := br_t hg hc2
  have hmx3 := SlR.mx (s.ft 101 rfl)
  apply wp_skip
  apply pN
  apply wQ
  apply wp_block
  apply wQ
  apply wQ
  obtain ⟨x5, hx5, hg⟩ := bind_some hg
  apply wL
  refine mv s rfl rfl fun a s => ?_
  refine mv s rfl rfl fun a s => ?_
  obtain ⟨p7, hep7, hpp7⟩ := SlR.elemX (s.ft 101 rfl) hx5
  refine qq s rfl (y_elem (sz := 7) (i := i_1) s rfl rfl underlying34 rfl hep7 rfl (lt_of_get hx5)) fun a s => ?_
  refine qq s rfl (y_ptrField (o' := 0) s rfl underlying89 rfl rfl rfl) fun a s => ?_
  obtain ⟨hlq8, hmq8, csq8, hdq8, hcq8⟩ := hpp7
  obtain ⟨Aq81, cq81, Aq85, cq85, Aq86, cq86, Aq87, cq87, rfl, hq81, lq82, lq84, hq85, hq86, hq87⟩ := REntryDecl.open hdq8
  replace s := s.ns 106 hq81
  replace s := s.ns 107 hq85
  replace s := s.ns 108 hq86
  replace s := s.ns 109 hq87
  refine qq s rfl (y_ldp1 s rfl hlq8 hmq8 (hcq8 0 _ rfl) underlying25 rfl) fun a s => ?_
  refine qq s rfl (y_lenSlice s rfl underlying25) fun a s => ?_
  refine qq s rfl (y_eqlN (i := ((x5.Words).length)) (j := 0) s rfl rfl) fun a s => ?_
  apply wN
  refine c_dec s rfl (fun hc9 => ?_) (fun hc9 => ?_)
  ·replace hg := br_t hg hc9
   apply wR
   refine asg s rfl rfl fun a s => ?_
   apply wN
   apply wp_ret
   refine p_thenR ?_
   refine p_inR ?_
   refine p_thenR ?_
   refine p_thenR ?_
   refine p_inR ?_
   refine p_thenR ?_
   obtain rfl := Option.some.inj hg
   refine fin1 (fn := Tryz.f83) s rfl (r_tmp s rfl) ?_
   exact rfl
  replace hg := br_f hg hc9
  apply wp_skip
  apply pN
  apply wQ
  apply wR
  refine asg s rfl rfl fun a s => ?_
  apply wN
  obtain ⟨k10, hg, hk10⟩ := jn_some hg
  refine c_post (fun a w => k10 = some r ∧ St (cx f83 M w0) [(0, sl Ap01 l_ cp01), (3, vI (((i_1 : Nat) : Int)))] [] [(101, sF REntryDecl Ap01 cp01 l_)] a w) ?_ ?_
  ·apply wp_block
   refine c_loop (σ := Nat) (fun m2 a w => ∃ (k_11 : Nat), r21_entriesError_L1 n x5 k10 m2 k_11 = some r ∧ St (cx f83 M w0) [(0, sl Ap01 l_ cp01), (3, vI (((i_1 : Nat) : Int))), (4, vI (((k_11 : Nat) : Int)))] [] [(101, sF REntryDecl Ap01 cp01 l_)] a w) (fun m2 => m2) n ⟨(0), hg, (s.sb rfl rfl rfl)⟩ ?_
   clear s a; rintro m2 a w ⟨k_11, hg, s⟩
   rcases m2 with _ | m2
   ·rw [r21_entriesError_L1] at hg; cases hg
   rw [r21_entriesError_L1] at hg
   apply wQ
   apply wR
   refine mv s rfl rfl fun a s => ?_
   refine mv s rfl rfl fun a s => ?_
   refine mv s rfl rfl fun a s => ?_
   obtain ⟨p14, hep14, hpp14⟩ := SlR.elemX (s.ft 101 rfl) hx5
   refine qq s rfl (y_elem (sz := 7) (i := i_1) s rfl rfl underlying34 rfl hep14 rfl (lt_of_get hx5)) fun a s => ?_
   refine qq s rfl (y_ptrField (o' := 0) s rfl underlying89 rfl rfl rfl) fun a s => ?_
   obtain ⟨hlq15, hmq15, csq15, hdq15, hcq15⟩ := hpp14
   obtain ⟨Aq151, cq151, Aq155, cq155, Aq156, cq156, Aq157, cq157, rfl, hq151, lq152, lq154, hq155, hq156, hq157⟩ := REntryDecl.open hdq15
   replace s := s.ns 114 hq151
   replace s := s.ns 115 hq155
   replace s := s.ns 116 hq156
   replace s := s.ns 117 hq157
   refine qq s rfl (y_ldp1 s rfl hlq15 hmq15 (hcq15 0 _ rfl) underlying25 rfl) fun a s => ?_
   refine qq s rfl (y_lenSlice s rfl underlying25) fun a s => ?_
   refine qq s rfl (y_lssN (i := k_11) (j := ((x5.Words).length)) s rfl rfl) fun a s => ?_
   apply wN
   refine c_dec s rfl (fun hc16 => ?_) (fun hc16 => ?_)
   ·replace hg := br_t hg hc16
    have hmx17 := SlR.mx (s.ft 114 rfl)
    apply wp_skip
    apply pN
    apply wQ
    apply wp_block
    apply wQ
    obtain ⟨x21, hx21, hg⟩ := bind_some hg
    obtain ⟨r23, hr23, hg⟩ := bind_some hg
    apply wL
    refine mv s rfl rfl fun a s => ?_
    refine mv s rfl rfl fun a s => ?_
    obtain ⟨p26, hep26, hpp26⟩ := SlR.elemX (s.ft 101 rfl) hx5
    refine qq s rfl (y_elem (sz := 7) (i := i_1) s rfl rfl underlying34 rfl hep26 rfl (lt_of_get hx5)) fun a s => ?_
    refine qq s rfl (y_ptrField (o' := 0) s rfl underlying89 rfl rfl rfl) fun a s => ?_
    obtain ⟨hlq27, hmq27, csq27, hdq27, hcq27⟩ := hpp26
    obtain ⟨Aq271, cq271, Aq275, cq275, Aq276, cq276, Aq277, cq277, rfl, hq271, lq272, lq274, hq275, hq276, hq277⟩ := REntryDecl.open hdq27
    replace s := s.ns 122 hq271
    replace s := s.ns 123 hq275
    replace s := s.ns 124 hq276
    replace s := s.ns 125 hq277
    refine qq s rfl (y_ldp1 s rfl hlq27 hmq27 (hcq27 0 _ rfl) underlying25 rfl) fun a s => ?_
    refine mv s rfl rfl fun a s => ?_
    obtain ⟨p28, hep28, hpp28⟩ := SlR.elemX (s.ft 122 rfl) hx21
    refine qq s rfl (y_elem (sz := 1) (i := k_11) s rfl rfl underlying25 rfl hep28 rfl (lt_of_get hx21)) fun a s => ?_
    obtain ⟨hlq29, hmq29, csq29, hdq29, hcq29⟩ := hpp28
    obtain ⟨rfl, lq291⟩ := hdq29
    refine qq s rfl (y_ldp1 s rfl hlq29 hmq29 (hcq29 0 _ rfl) underlying9 rfl) fun a s => ?_
    refine lc s rfl func114 (by kernel_rfl) (c_r01_Word n _ _ s.lt _ (by omega) _ hr23) fun v30 a w hK hp s => ?_
    obtain rfl := hp
    refine qq s rfl (y_not s rfl) fun a s => ?_
    apply wN
    refine c_cond s rfl (fun hc32 => ?_) (fun hc32 => ?_)
    ·replace hg := br_t hg hc32
     apply wR
     refine asg s rfl rfl fun a s => ?_
     apply wN
     apply wp_ret
     refine p_inR ?_
     refine p_thenR ?_
     refine p_thenR ?_
     refine p_inR ?_
     refine p_thenR ?_
     refine p_inR ?_
     refine p_thenR ?_
     refine p_thenR ?_
     refine p_inR ?_
     refine p_thenR ?_
     obtain rfl := Option.some.inj hg
     refine fin1 (fn := Tryz.f83) s rfl (r_tmp s rfl) ?_
     exact rfl
    replace hg := br_n hg hc32
    apply wp_skip
    refine p_inN ?_
    apply pN
    apply wL
    refine mv s rfl rfl fun a s => ?_
    refine qq s rfl (y_addN (i := k_11) (j := 1) s rfl rfl (in64.2 (by omega))) fun a s => ?_
    refine asg s rfl rfl fun a s => ?_
    apply wN
    exact ⟨m2, Nat.lt_succ_self _, ⟨(k_11 + 1), hg, (s.sb rfl rfl rfl)⟩⟩
   replace hg := br_f hg hc16
   apply wp_exit
   refine p_then ?_
   refine p_then ?_
   refine p_in ?_
   apply pN
   exact ⟨hg, (s.sb rfl rfl rfl)⟩
  clear s a; rintro a w ⟨hg, s⟩
  subst hk10
  apply wQ
  obtain ⟨r35, hr35, hg⟩ := bind_some hg
  apply wL
  refine mv s rfl rfl fun a s => ?_
  refine mv s rfl rfl fun a s => ?_
  obtain ⟨p38, hep38, hpp38⟩ := SlR.elemX (s.ft 101 rfl) hx5
  refine qq s rfl (y_elem (sz := 7) (i := i_1) s rfl rfl underlying34 rfl hep38 rfl (lt_of_get hx5)) fun a s => ?_
  refine qq s rfl (y_ptrField (o' := 1) s rfl underlying89 rfl rfl rfl) fun a s => ?_
  obtain ⟨hlq39, hmq39, csq39, hdq39, hcq39⟩ := hpp38
  obtain ⟨Aq391, cq391, Aq395, cq395, Aq396, cq396, Aq397, cq397, rfl, hq391, lq392, lq394, hq395, hq396, hq397⟩ := REntryDecl.open hdq39
  replace s := s.ns 130 hq391
  replace s := s.ns 131 hq395
  replace s := s.ns 132 hq396
  replace s := s.ns 133 hq397
  refine qq s rfl (y_ldp (cs := [vT x5.Def.Name, vI x5.Def.Strict.Op, vT x5.Def.Strict.Name, sl Aq395 x5.Def.Strict.Path cq395, sl Aq396 x5.Def.Strict.Kids cq396, sl Aq397 x5.Def.Defaults cq397]) s rfl hlq39 hmq39 (fun j v hj => hcq39 (1 + j) v (by rcases j with _ | (_ | (_ | (_ | (_ | (_ | _))))) <;> first | exact hj | cases hj)) underlying62 rfl rfl) fun a s => ?_
  refine lc s rfl func113 (by kernel_rfl) (c_r21_defError n _ _ s.lt _ _ _ _ _ _ _ (by omega) (by omega) (s.ft 131 rfl) (s.ft 132 rfl) (s.ft 133 rfl) _ hr35) fun v40 a w hK hp s => ?_
  obtain rfl := hp
  refine asg s rfl rfl fun a s => ?_
  apply wN
  apply wR
  refine mv s rfl rfl fun a s => ?_
  refine qq s rfl (y_neq s rfl rfl) fun a s => ?_
  apply wN
  refine c_dec s rfl (fun hc42 => ?_) (fun hc42 => ?_)
  ·replace hg := br_t hg hc42
   apply wR
   refine mv s rfl rfl fun a s => ?_
   refine asg s rfl rfl fun a s => ?_
   apply wN
   apply wp_ret
   refine p_inR ?_
   refine p_thenR ?_
   refine p_thenR ?_
   refine p_inR ?_
   refine p_thenR ?_
   obtain rfl := Option.some.inj hg
   refine fin1 (fn := Tryz.f83) s rfl (r_tmp s rfl) ?_
   exact rfl
  replace hg := br_f hg hc42
  apply wp_skip
  refine p_inN ?_
  apply pN
  apply wL
  refine mv s rfl rfl fun a s => ?_
  refine qq s rfl (y_addN (i := i_1) (j := 1) s rfl rfl (in64.2 (by omega))) fun a s => ?_
  refine asg s rfl rfl fun a s => ?_
  apply wN
  exact ⟨m1, Nat.lt_succ_self _, ⟨(i_1 + 1), hg, (s.sb rfl rfl rfl)⟩⟩
 replace hg := br_f hg hc2
 apply wp_exit
 refine p_then ?_
 refine p_then ?_
 refine p_in ?_
 apply pN
 apply wR
 refine asg s rfl rfl fun a s => ?_
 apply wN
 apply wp_ret
 obtain rfl := Option.some.inj hg
 refine fin1 (fn := Tryz.f83) s rfl (r_tmp s rfl) ?_
 exact rfl
set_option maxHeartbeats 1000000 in
theorem c_r21_quotable (n : Nat) (M : Bs) (w0 : World) (hM : ∀ b, M b → b < w0.heap.size) (s_ : (List UInt8)) (lp01 : (s_).length ≤ 9223372036854775807) (r : Bool) (hg : r21_quotable n s_ = some r) :
    Calls Tryz.prog 131 [.string (bs (s_))].toArray w0 (Ret noB w0 fun v w => v = .bool (r)) := by
 unfold r21_quotable at hg
 refine enter M noB func131 rfl rfl hM ?_
 intro a s
 apply wR
 refine asg s rfl rfl fun a s => ?_
 apply wN
 apply wQ
 apply wR
 refine asg s rfl rfl fun a s => ?_
 apply wN
 apply wp_block
 refine c_loop (σ := Nat) (fun m1 a w => ∃ (i_1 : Nat), r21_quotable_L0 n s_ m1 i_1 = some r ∧ St (cx f131 M w0) [(0, vT s_), (3, vI (((i_1 : Nat) : Int)))] [] [] a w) (fun m1 => m1) n ⟨(0), hg, (s.sb rfl rfl rfl)⟩ ?_
 clear s a; rintro m1 a w ⟨i_1, hg, s⟩
 rcases m1 with _ | m1
 ·rw [r21_quotable_L0] at hg; cases hg
 rw [r21_quotable_L0] at hg
 apply wQ
 apply wR
 refine mv s rfl rfl fun a s => ?_
 refine mv s rfl rfl fun a s => ?_
 refine qq s rfl (y_lenStrN s rfl underlying9) fun a s => ?_
 refine qq s rfl (y_lssN (i := i_1) (j := ((s_).length)) s rfl rfl) fun a s => ?_
 apply wN
 refine c_dec s rfl (fun hc2 => ?_) (fun hc2 => ?_)
 ·replace hg := br_t hg hc2
  have hmx3 : (s_).length ≤ 9223372036854775807 := (by omega)
  apply wp_skip
  apply pN
  apply wQ
  apply wp_block
  apply wQ
  obtain ⟨k4, hg, hk4⟩ := jn_some hg
  refine c_post (fun a w => ∃ (t_5 : Bool), k4 t_5 = some r ∧ St (cx f131 M w0) [(0, vT s_), (3, vI (((i_1 : Nat) : Int))), (25, .bool (t_5))] [] [] a w) ?_ ?_
  ·obtain ⟨c6, hc6, hg⟩ := bind_some hg
   rcases Decidable.em (c6.toNat < 32) with hs7 | hs7
   ·have hs7e := decide_eq_true hs7
    replace hg := br_t hg hs7
    apply wL
    refine mv s rfl rfl fun a s => ?_
    refine mv s rfl rfl fun a s => ?_
    refine qq s rfl (y_indexN (i := i_1) s rfl rfl underlying9 rfl hc6) fun a s => ?_
    refine qq s rfl (yl_b (y_lssN (i := c6.toNat) (j := 32) s rfl rfl) hs7e) fun a s => ?_
    refine mv s rfl rfl fun a s => ?_
    refine gn s rfl fun a s => ?_
    refine gn s rfl fun a s => ?_
    refine gn s rfl fun a s => ?_
    refine gn s rfl fun a s => ?_
    refine qq s rfl (y_pick_t s rfl rfl) fun a s => ?_
    refine mv s rfl rfl fun a s => ?_
    refine gn s rfl fun a s => ?_
    refine gn s rfl fun a s => ?_
    refine gn s rfl fun a s => ?_
    refine gn s rfl fun a s => ?_
    refine qq s rfl (y_pick_t s rfl rfl) fun a s => ?_
    apply wN
    exact ⟨(true), hg, (s.sb rfl rfl rfl)⟩
   have hs7e := decide_eq_false hs7
   replace hg := br_f hg hs7
   rcases Decidable.em ((126 : Nat) < c6.toNat) with hs8 | hs8
   ·have hs8e := decide_eq_true hs8
    replace hg := br_t hg hs8
    apply wL
    refine mv s rfl rfl fun a s => ?_
    refine mv s rfl rfl fun a s => ?_
    refine qq s rfl (y_indexN (i := i_1) s rfl rfl underlying9 rfl hc6) fun a s => ?_
    refine qq s rfl (yl_b (y_lssN (i := c6.toNat) (j := 32) s rfl rfl) hs7e) fun a s => ?_
    refine mv s rfl rfl fun a s => ?_
    refine gm s rfl rfl fun a s => ?_
    refine gm s rfl rfl fun a s => ?_
    refine gy s rfl (y_indexN (i := i_1) s rfl rfl underlying9 rfl hc6) fun a s => ?_
    refine gy s rfl (yl_b (y_gtrN (i := c6.toNat) (j := 126) s rfl rfl) hs8e) fun a s => ?_
    refine qq s rfl (y_pick_f s rfl rfl) fun a s => ?_
    refine mv s rfl rfl fun a s => ?_
    refine gn s rfl fun a s => ?_
    refine gn s rfl fun a s => ?_
    refine gn s rfl fun a s => ?_
    refine gn s rfl fun a s => ?_
    refine qq s rfl (y_pick_t s rfl rfl) fun a s => ?_
    apply wN
    exact ⟨(true), hg, (s.sb rfl rfl rfl)⟩
   have hs8e := decide_eq_false hs8
   replace hg := br_f hg hs8
   apply wL
   refine mv s rfl rfl fun a s => ?_
   refine mv s rfl rfl fun a s => ?_
   refine qq s rfl (y_indexN (i := i_1) s rfl rfl underlying9 rfl hc6) fun a s => ?_
   refine qq s rfl (yl_b (y_lssN (i := c6.toNat) (j := 32) s rfl rfl) hs7e) fun a s => ?_
   refine mv s rfl rfl fun a s => ?_
   refine gm s rfl rfl fun a s => ?_
   refine gm s rfl rfl fun a s => ?_
   refine gy s rfl (y_indexN (i := i_1) s rfl rfl underlying9 rfl hc6) fun a s => ?_
   refine gy s rfl (yl_b (y_gtrN (i := c6.toNat) (j := 126) s rfl rfl) hs8e) fun a s => ?_
   refine qq s rfl (y_pick_f s rfl rfl) fun a s => ?_
   refine mv s rfl rfl fun a s => ?_
   refine gm s rfl rfl fun a s => ?_
   refine gm s rfl rfl fun a s => ?_
   refine gy s rfl (y_indexN (i := i_1) s rfl rfl underlying9 rfl hc6) fun a s => ?_
   refine gy s rfl (y_eqlN (i := c6.toNat) (j := 34) s rfl rfl) fun a s => ?_
   refine qq s rfl (y_pick_f s rfl rfl) fun a s => ?_
   apply wN
   exact ⟨(decide (c6.toNat = 34)), hg, (s.sb rfl rfl rfl)⟩
  clear s a; rintro a w ⟨t_5, hg, s⟩
  subst hk4
  refine c_cond s rfl (fun hc9 => ?_) (fun hc9 => ?_)
  ·replace hg := br_t hg hc9
   apply wR
   refine asg s rfl rfl fun a s => ?_
   apply wN
   apply wp_ret
   refine p_inR ?_
   refine p_thenR ?_
   refine p_thenR ?_
   refine p_inR ?_
   refine p_thenR ?_
   obtain rfl := Option.some.inj hg
   refine fin1 (fn := Tryz.f131) s rfl (r_tmp s rfl) ?_
   exact rfl
  replace hg := br_n hg hc9
  apply wp_skip
  refine p_inN ?_
  apply pN
  apply wL
  refine mv s rfl rfl fun a s => ?_
  refine qq s rfl (y_addN (i := i_1) (j := 1) s rfl rfl (in64.2 (by omega))) fun a s => ?_
  refine asg s rfl rfl fun a s => ?_
  apply wN
  exact ⟨m1, Nat.lt_succ_self _, ⟨(i_1 + 1), hg, (s.sb rfl rfl rfl)⟩⟩
 replace hg := br_f hg hc2
 apply wp_exit
 refine p_then ?_
 refine p_then ?_
 refine p_in ?_
 apply pN
 apply wR
 refine asg s rfl rfl fun a s => ?_
 apply wN
 apply wp_ret
 obtain rfl := Option.some.inj hg
 refine fin1 (fn := Tryz.f131) s rfl (r_tmp s rfl) ?_
 exact rfl
set_option maxHeartbeats 1000000 in
theorem c_r21_affixError (n : Nat) (M : Bs) (w0 : World) (hM : ∀ b, M b → b < w0.heap.size) (a_ : Affix) (Ap02 : Option Addr) (cp02 : Nat) (hp02 : SlR RChange M w0 Ap02 (a_.Pairs).length cp02 (a_.Pairs)) (r : Int) (hg : r21_affixError n a_ = some r) :
    Calls Tryz.prog 115 [.agg #[.int .i64 (a_.Kind), .slice (Ap02) ((a_.Pairs).length) (cp02)]].toArray w0 (Ret noB w0 fun v w => v = .int .i64 (r)) := by
 unfold r21_affixError at hg
 refine enter M noB func115 rfl rfl hM ?_
 intro a s
 replace s := s.es 101 hp02
 apply wR
 refine l_seq rfl (l_box (zs := [vI a_.Kind, sl Ap02 a_.Pairs cp02]) s 1000 rfl rfl rfl rfl fun b2 a w hb hK s => ?_)
 refine asg s rfl rfl fun a s => ?_
 apply wN
 apply wQ
 apply wQ
 obtain ⟨k3, hg, hk3⟩ := jn_some hg
 refine c_post (fun a w => ∃ (t_4 : Bool), k3 t_4 = some r ∧ St (cx f115 M w0) [(1, vP b2 0), (16, .bool (t_4))] [(1000, Ob.box b2 [vI a_.Kind, sl Ap02 a_.Pairs cp02] 92)] [(101, sF RChange Ap02 cp02 a_.Pairs)] a w) ?_ ?_
 ·rcases Decidable.em (a_.Kind ≠ 0) with hs5 | hs5
  ·have hs5e := decide_eq_true hs5
   replace hg := br_t hg hs5
   rcases Decidable.em (a_.Kind ≠ 1) with hs6 | hs6
   ·have hs6e := decide_eq_true hs6
    replace hg := br_t hg hs6
    apply wL
    refine qq s rfl (y_boxField (o' := 0) s rfl underlying92 rfl rfl rfl) fun a s => ?_
    refine qq s rfl (y_loadBox1 (kk := 1000) s rfl rfl rfl underlying3 rfl) fun a s => ?_
    refine qq s rfl (yl_b (y_neq s rfl rfl) hs5e) fun a s => ?_
    refine mv s rfl rfl fun a s => ?_
    refine gy s rfl (y_boxField (o' := 0) s rfl underlying92 rfl rfl rfl) fun a s => ?_
    refine gy s rfl (y_loadBox1 (kk := 1000) s rfl rfl rfl underlying3 rfl) fun a s => ?_
    refine gy s rfl (yl_b (y_neq s rfl rfl) hs6e) fun a s => ?_
    refine qq s rfl (y_pick_t s rfl rfl) fun a s => ?_
    refine mv s rfl rfl fun a s => ?_
    refine gy s rfl (y_boxField (o' := 0) s rfl underlying92 rfl rfl rfl) fun a s => ?_
    refine gy s rfl (y_loadBox1 (kk := 1000) s rfl rfl rfl underlying3 rfl) fun a s => ?_
    refine gy s rfl (y_neq s rfl rfl) fun a s => ?_
    refine qq s rfl (y_pick_t s rfl rfl) fun a s => ?_
    apply wN
    exact ⟨(decide (a_.Kind ≠ 2)), hg, (s.sb rfl rfl rfl)⟩
   have hs6e := decide_eq_false hs6
   replace hg := br_f hg hs6
   apply wL
   refine qq s rfl (y_boxField (o' := 0) s rfl underlying92 rfl rfl rfl) fun a s => ?_
   refine qq s rfl (y_loadBox1 (kk := 1000) s rfl rfl rfl underlying3 rfl) fun a s => ?_
   refine qq s rfl (yl_b (y_neq s rfl rfl) hs5e) fun a s => ?_
   refine mv s rfl rfl fun a s => ?_
   refine gy s rfl (y_boxField (o' := 0) s rfl underlying92 rfl rfl rfl) fun a s => ?_
   refine gy s rfl (y_loadBox1 (kk := 1000) s rfl rfl rfl underlying3 rfl) fun a s => ?_
   refine gy s rfl (yl_b (y_neq s rfl rfl) hs6e) fun a s => ?_
   refine qq s rfl (y_pick_t s rfl rfl) fun a s => ?_
   refine mv s rfl rfl fun a s => ?_
   refine gn s rfl fun a s => ?_
   refine gn s rfl fun a s => ?_
   refine gn s rfl fun a s => ?_
   refine qq s rfl (y_pick_f s rfl rfl) fun a s => ?_
   apply wN
   exact ⟨(false), hg, (s.sb rfl rfl rfl)⟩
  have hs5e := decide_eq_false hs5
  replace hg := br_f hg hs5
  apply wL
  refine qq s rfl (y_boxField (o' := 0) s rfl underlying92 rfl rfl rfl) fun a s => ?_
  refine qq s rfl (y_loadBox1 (kk := 1000) s rfl rfl rfl underlying3 rfl) fun a s => ?_
  refine qq s rfl (yl_b (y_neq s rfl rfl) hs5e) fun a s => ?_
  refine mv s rfl rfl fun a s => ?_
  refine gn s rfl fun a s => ?_
  refine gn s rfl fun a s => ?_
  refine gn s rfl fun a s => ?_
  refine qq s rfl (y_pick_f s rfl rfl) fun a s => ?_
  refine mv s rfl rfl fun a s => ?_
  refine gn s rfl fun a s => ?_
  refine gn s rfl fun a s => ?_
  refine gn s rfl fun a s => ?_
  refine qq s rfl (y_pick_f s rfl rfl) fun a s => ?_
  apply wN
  exact ⟨(false), hg, (s.sb rfl rfl rfl)⟩
 clear s a; rintro a w ⟨t_4, hg, s⟩
 subst hk3
 refine c_cond s rfl (fun hc7 => ?_) (fun hc7 => ?_)
 ·replace hg := br_t hg hc7
  apply wR
  refine asg s rfl rfl fun a s => ?_
  apply wN
  apply wp_ret
  refine p_thenR ?_
  obtain rfl := Option.some.inj hg
  refine fin1 (fn := Tryz.f115) s rfl (r_tmp s rfl) ?_
  exact rfl
 replace hg := br_n hg hc7
 apply wp_skip
 apply pN
 apply wQ
 apply wR
 refine qq s rfl (y_boxField (o' := 0) s rfl underlying92 rfl rfl rfl) fun a s => ?_
 refine qq s rfl (y_loadBox1 (kk := 1000) s rfl rfl rfl underlying3 rfl) fun a s => ?_
 refine qq s rfl (y_eql s rfl rfl) fun a s => ?_
 refine qq s rfl (y_boxField (o' := 1) s rfl underlying92 rfl rfl rfl) fun a s => ?_
 refine qq s rfl (y_loadBox1 (kk := 1000) s rfl rfl rfl underlying90 rfl) fun a s => ?_
 refine qq s rfl (y_lenSlice s rfl underlying90) fun a s => ?_
 refine qq s rfl (y_eqlN (i := ((a_.Pairs).length)) (j := 0) s rfl rfl) fun a s => ?_
 refine qq s rfl (y_bne s rfl rfl underlying4) fun a s => ?_
 apply wN
 refine c_cond s rfl (fun hc8 => ?_) (fun hc8 => ?_)
 ·replace hg := br_t hg hc8
  apply wR
  refine asg s rfl rfl fun a s => ?_
  apply wN
  apply wp_ret
  refine p_thenR ?_
  obtain rfl := Option.some.inj hg
  refine fin1 (fn := Tryz.f115) s rfl (r_tmp s rfl) ?_
  exact rfl
 replace hg := br_n hg hc8
 apply wp_skip
 apply pN
 apply wQ
 apply wR
 refine asg s rfl rfl fun a s => ?_
 apply wN
 apply wp_block
 refine c_loop (σ := Nat) (fun m1 a w => ∃ (i_9 : Nat), r21_affixError_L0 n a_ m1 i_9 = some r ∧ St (cx f115 M w0) [(1, vP b2 0), (3, vI (((i_9 : Nat) : Int)))] [(1000, Ob.box b2 [vI a_.Kind, sl Ap02 a_.Pairs cp02] 92)] [(101, sF RChange Ap02 cp02 a_.Pairs)] a w) (fun m1 => m1) n ⟨(0), hg, (s.sb rfl rfl rfl)⟩ ?_
 clear s a; rintro m1 a w ⟨i_9, hg, s⟩
 rcases m1 with _ | m1
 ·rw [r21_affixError_L0] at hg; cases hg
 rw [r21_affixError_L0] at hg
 apply wQ
 apply wR
 refine mv s rfl rfl fun a s => ?_
 refine qq s rfl (y_boxField (o' := 1) s rfl underlying92 rfl rfl rfl) fun a s => ?_
 refine qq s rfl (y_loadBox1 (kk := 1000) s rfl rfl rfl underlying90 rfl) fun a s => ?_
 refine qq s rfl (y_lenSlice s rfl underlying90) fun a s => ?_
 refine qq s rfl (y_lssN (i := i_9) (j := ((a_.Pairs).length)) s rfl rfl) fun a s => ?_
 apply wN
 refine c_dec s rfl (fun hc10 => ?_) (fun hc10 => ?_)
 ·replace hg := br_t hg hc10
  have hmx11 := SlR.mx (s.ft 101 rfl)
  apply wp_skip
  apply pN
  apply wQ
  apply wp_block
  apply wQ
  obtain ⟨k12, hg, hk12⟩ := jn_some hg
  refine c_post (fun a w => ∃ (t_13 : Bool), k12 t_13 = some r ∧ St (cx f115 M w0) [(1, vP b2 0), (3, vI (((i_9 : Nat) : Int))), (49, .bool (t_13))] [(1000, Ob.box b2 [vI a_.Kind, sl Ap02 a_.Pairs cp02] 92)] [(101, sF RChange Ap02 cp02 a_.Pairs)] a w) ?_ ?_
  ·obtain ⟨x15, hx15, hg⟩ := bind_some hg
   obtain ⟨r17, hr17, hg⟩ := bind_some hg
   rcases Bool.eq_false_or_eq_true (!(r17)) with hs20 | hs20
   ·replace hg := br_t hg hs20
    apply wL
    refine qq s rfl (y_boxField (o' := 1) s rfl underlying92 rfl rfl rfl) fun a s => ?_
    refine qq s rfl (y_loadBox1 (kk := 1000) s rfl rfl rfl underlying90 rfl) fun a s => ?_
    refine mv s rfl rfl fun a s => ?_
    obtain ⟨p21, hep21, hpp21⟩ := SlR.elemX (s.ft 101 rfl) hx15
    refine qq s rfl (y_elem (sz := 2) (i := i_9) s rfl rfl underlying90 rfl hep21 rfl (lt_of_get hx15)) fun a s => ?_
    refine qq s rfl (y_ptrField (o' := 0) s rfl underlying144 rfl rfl rfl) fun a s => ?_
    obtain ⟨hlq22, hmq22, csq22, hdq22, hcq22⟩ := hpp21
    obtain ⟨rfl, lq221, lq222⟩ := RChange.open hdq22
    refine qq s rfl (y_ldp1 s rfl hlq22 hmq22 (hcq22 0 _ rfl) underlying9 rfl) fun a s => ?_
    refine lc s rfl func131 (by kernel_rfl) (c_r21_quotable n _ _ s.lt _ (by omega) _ hr17) fun v23 a w hK hp s => ?_
    obtain rfl := hp
    refine qq s rfl (yl_b (y_not s rfl) hs20) fun a s => ?_
    refine mv s rfl rfl fun a s => ?_
    refine gn s rfl fun a s => ?_
    refine gn s rfl fun a s => ?_
    refine gn s rfl fun a s => ?_
    refine gn s rfl fun a s => ?_
    refine gn s rfl fun a s => ?_
    refine gn s rfl fun a s => ?_
    refine gn s rfl fun a s => ?_
    refine gn s rfl fun a s => ?_
    refine qq s rfl (y_pick_t s rfl rfl) fun a s => ?_
    apply wN
    exact ⟨(true), hg, (s.sb rfl rfl rfl)⟩
   replace hg := br_n hg hs20
   obtain ⟨r27, hr27, hg⟩ := bind_some hg
   apply wL
   refine qq s rfl (y_boxField (o' := 1) s rfl underlying92 rfl rfl rfl) fun a s => ?_
   refine qq s rfl (y_loadBox1 (kk := 1000) s rfl rfl rfl underlying90 rfl) fun a s => ?_
   refine mv s rfl rfl fun a s => ?_
   obtain ⟨p30, hep30, hpp30⟩ := SlR.elemX (s.ft 101 rfl) hx15
   refine qq s rfl (y_elem (sz := 2) (i := i_9) s rfl rfl underlying90 rfl hep30 rfl (lt_of_get hx15)) fun a s => ?_
   refine qq s rfl (y_ptrField (o' := 0) s rfl underlying144 rfl rfl rfl) fun a s => ?_
   obtain ⟨hlq31, hmq31, csq31, hdq31, hcq31⟩ := hpp30
   obtain ⟨rfl, lq311, lq312⟩ := RChange.open hdq31
   refine qq s rfl (y_ldp1 s rfl hlq31 hmq31 (hcq31 0 _ rfl) underlying9 rfl) fun a s => ?_
   refine lc s rfl func131 (by kernel_rfl) (c_r21_quotable n _ _ s.lt _ (by omega) _ hr17) fun v32 a w hK hp s => ?_
   obtain rfl := hp
   refine qq s rfl (yl_b (y_not s rfl) hs20) fun a s => ?_
   refine mv s rfl rfl fun a s => ?_
   refine gy s rfl (y_boxField (o' := 1) s rfl underlying92 rfl rfl rfl) fun a s => ?_
   refine gy s rfl (y_loadBox1 (kk := 1000) s rfl rfl rfl underlying90 rfl) fun a s => ?_
   refine gm s rfl rfl fun a s => ?_
   obtain ⟨p34, hep34, hpp34⟩ := SlR.elemX (s.ft 101 rfl) hx15
   refine gy s rfl (y_elem (sz := 2) (i := i_9) s rfl rfl underlying90 rfl hep34 rfl (lt_of_get hx15)) fun a s => ?_
   refine gy s rfl (y_ptrField (o' := 1) s rfl underlying144 rfl rfl rfl) fun a s => ?_
   obtain ⟨hlq35, hmq35, csq35, hdq35, hcq35⟩ := hpp34
   obtain ⟨rfl, lq351, lq352⟩ := RChange.open hdq35
   refine gy s rfl (y_ldp1 s rfl hlq35 hmq35 (hcq35 1 _ rfl) underlying9 rfl) fun a s => ?_
   refine gl s rfl (l_call (cap := []) s rfl func131 rfl (by kernel_rfl) rfl rfl (c_r21_quotable n _ _ s.lt _ (by omega) _ hr27) fun v36 a w hK hp s => ?_)
   obtain rfl := hp
   refine gy s rfl (y_not s rfl) fun a s => ?_
   refine qq s rfl (y_pick_f s rfl rfl) fun a s => ?_
   apply wN
   exact ⟨(!(r27)), hg, (s.sb rfl rfl rfl)⟩
  clear s a; rintro a w ⟨t_13, hg, s⟩
  subst hk12
  refine c_cond s rfl (fun hc38 => ?_) (fun hc38 => ?_)
  ·replace hg := br_t hg hc38
   apply wR
   refine asg s rfl rfl fun a s => ?_
   apply wN
   apply wp_ret
   refine p_inR ?_
   refine p_thenR ?_
   refine p_thenR ?_
   refine p_inR ?_
   refine p_thenR ?_
   obtain rfl := Option.some.inj hg
   refine fin1 (fn := Tryz.f115) s rfl (r_tmp s rfl) ?_
   exact rfl
  replace hg := br_n hg hc38
  apply wp_skip
  refine p_inN ?_
  apply pN
  apply wL
  refine mv s rfl rfl fun a s => ?_
  refine qq s rfl (y_addN (i := i_9) (j := 1) s rfl rfl (in64.2 (by omega))) fun a s => ?_
  refine asg s rfl rfl fun a s => ?_
  apply wN
  exact ⟨m1, Nat.lt_succ_self _, ⟨(i_9 + 1), hg, (s.sb rfl rfl rfl)⟩⟩
 replace hg := br_f hg hc10
 apply wp_exit
 refine p_then ?_
 refine p_then ?_
 refine p_in ?_
 apply pN
 apply wR
 refine asg s rfl rfl fun a s => ?_
 apply wN
 apply wp_ret
 obtain rfl := Option.some.inj hg
 refine fin1 (fn := Tryz.f115) s rfl (r_tmp s rfl) ?_
 exact rfl
set_option maxHeartbeats 1000000 in
theorem c_r21_lexError (n : Nat) (M : Bs) (w0 : World) (hM : ∀ b, M b → b < w0.heap.size) (l_ : (List LexDecl)) (Ap01 : Option Addr) (cp01 : Nat) (hp01 : SlR RLexDecl M w0 Ap01 (l_).length cp01 (l_)) (r : Int) (hg : r21_lexError n l_ = some r) :
    Calls Tryz.prog 84 [.slice (Ap01) ((l_).length) (cp01)].toArray w0 (Ret noB w0 fun v w => v = .int .i64 (r)) := by
 unfold r21_lexError at hg
 refine enter M noB func84 rfl rfl hM ?_
 intro a s
 replace s := s.es 101 hp01
 apply wR
 refine asg s rfl rfl fun a s => ?_
 apply wN
 apply wQ
 apply wR
 refine asg s rfl rfl fun a s => ?_
 apply wN
 apply wp_block
 refine c_loop (σ := Nat) (fun m1 a w => ∃ (i_1 : Nat), r21_lexError_L0 n l_ m1 i_1 = some r ∧ St (cx f84 M w0) [(0, sl Ap01 l_ cp01), (3, vI (((i_1 : Nat) : Int)))] [] [(101, sF RLexDecl Ap01 cp01 l_)] a w) (fun m1 => m1) n ⟨(0), hg, (s.sb rfl rfl rfl)⟩ ?_
 clear s a; rintro m1 a w ⟨i_1, hg, s⟩
 rcases m1 with _ | m1
 ·rw [r21_lexError_L0] at hg; cases hg
 rw [r21_lexError_L0] at hg
 apply wQ
 apply wR
 refine mv s rfl rfl fun a s => ?_
 refine mv s rfl rfl fun a s => ?_
 refine qq s rfl (y_lenSlice s rfl underlying35) fun a s => ?_
 refine qq s rfl (y_lssN (i := i_1) (j := ((l_).length)) s rfl rfl) fun a s => ?_
 apply wN
 refine c_dec s rfl (fun hc2 => ?_) (fun hc2 => ?_)
 ·replace hg := br_t hg hc2
  have hmx3 := SlR.mx (s.ft 101 rfl)
  apply wp_skip
  apply pN
  apply wQ
  apply wp_block
  apply wQ
  obtain ⟨x5, hx5, hg⟩ := bind_some hg
  obtain ⟨r7, hr7, hg⟩ := bind_some hg
  apply wL
  refine mv s rfl rfl fun a s => ?_
  refine mv s rfl rfl fun a s => ?_
  obtain ⟨p10, hep10, hpp10⟩ := SlR.elemX (s.ft 101 rfl) hx5
  refine qq s rfl (y_elem (sz := 8) (i := i_1) s rfl rfl underlying35 rfl hep10 rfl (lt_of_get hx5)) fun a s => ?_
  refine qq s rfl (y_ptrField (o' := 0) s rfl underlying94 rfl rfl rfl) fun a s => ?_
  obtain ⟨hlq11, hmq11, csq11, hdq11, hcq11⟩ := hpp10
  obtain ⟨Aq112, cq112, Aq116, cq116, Aq117, cq117, Aq118, cq118, rfl, hq112, lq113, lq115, hq116, hq117, hq118⟩ := RLexDecl.open hdq11
  replace s := s.ns 106 hq112
  replace s := s.ns 107 hq116
  replace s := s.ns 108 hq117
  replace s := s.ns 109 hq118
  refine qq s rfl (y_ldp (cs := [vI x5.Affix.Kind, sl Aq112 x5.Affix.Pairs cq112]) s rfl hlq11 hmq11 (fun j v hj => hcq11 (0 + j) v (by rcases j with _ | (_ | _) <;> first | exact hj | cases hj)) underlying92 rfl rfl) fun a s => ?_
  refine lc s rfl func115 (by kernel_rfl) (c_r21_affixError n _ _ s.lt _ _ _ (s.ft 106 rfl) _ hr7) fun v12 a w hK hp s => ?_
  obtain rfl := hp
  refine asg s rfl rfl fun a s => ?_
  apply wN
  apply wQ
  apply wR
  refine mv s rfl rfl fun a s => ?_
  refine qq s rfl (y_eql s rfl rfl) fun a s => ?_
  apply wN
  obtain ⟨k14, hg, hk14⟩ := jn_some hg
  refine c_post (fun a w => ∃ (e_15 : Int), k14 e_15 = some r ∧ St (cx f84 M w0) [(0, sl Ap01 l_ cp01), (3, vI (((i_1 : Nat) : Int))), (4, vI e_15)] [] [(101, sF RLexDecl Ap01 cp01 l_)] a w) ?_ ?_
  ·refine c_dec s rfl (fun hc16 => ?_) (fun hc16 => ?_)
   ·replace hg := br_t hg hc16
    obtain ⟨r19, hr19, hg⟩ := bind_some hg
    apply wL
    refine mv s rfl rfl fun a s => ?_
    refine mv s rfl rfl fun a s => ?_
    obtain ⟨p22, hep22, hpp22⟩ := SlR.elemX (s.ft 101 rfl) hx5
    refine qq s rfl (y_elem (sz := 8) (i := i_1) s rfl rfl underlying35 rfl hep22 rfl (lt_of_get hx5)) fun a s => ?_
    refine qq s rfl (y_ptrField (o' := 2) s rfl underlying94 rfl rfl rfl) fun a s => ?_
    obtain ⟨hlq23, hmq23, csq23, hdq23, hcq23⟩ := hpp22
    obtain ⟨Aq232, cq232, Aq236, cq236, Aq237, cq237, Aq238, cq238, rfl, hq232, lq233, lq235, hq236, hq237, hq238⟩ := RLexDecl.open hdq23
    replace s := s.ns 114 hq232
    replace s := s.ns 115 hq236
    replace s := s.ns 116 hq237
    replace s := s.ns 117 hq238
    refine qq s rfl (y_ldp (cs := [vT x5.Def.Name, vI x5.Def.Strict.Op, vT x5.Def.Strict.Name, sl Aq236 x5.Def.Strict.Path cq236, sl Aq237 x5.Def.Strict.Kids cq237, sl Aq238 x5.Def.Defaults cq238]) s rfl hlq23 hmq23 (fun j v hj => hcq23 (2 + j) v (by rcases j with _ | (_ | (_ | (_ | (_ | (_ | _))))) <;> first | exact hj | cases hj)) underlying62 rfl rfl) fun a s => ?_
    refine lc s rfl func113 (by kernel_rfl) (c_r21_defError n _ _ s.lt _ _ _ _ _ _ _ (by omega) (by omega) (s.ft 115 rfl) (s.ft 116 rfl) (s.ft 117 rfl) _ hr19) fun v24 a w hK hp s => ?_
    obtain rfl := hp
    refine asg s rfl rfl fun a s => ?_
    apply wN
    exact ⟨(r19), hg, (s.sb rfl rfl rfl)⟩
   replace hg := br_f hg hc16
   apply wp_skip
   apply pN
   exact ⟨(r7), hg, (s.sb rfl rfl rfl)⟩
  clear s a; rintro a w ⟨e_15, hg, s⟩
  subst hk14
  apply wR
  refine mv s rfl rfl fun a s => ?_
  refine qq s rfl (y_neq s rfl rfl) fun a s => ?_
  apply wN
  refine c_dec s rfl (fun hc26 => ?_) (fun hc26 => ?_)
  ·replace hg := br_t hg hc26
   apply wR
   refine mv s rfl rfl fun a s => ?_
   refine asg s rfl rfl fun a s => ?_
   apply wN
   apply wp_ret
   refine p_inR ?_
   refine p_thenR ?_
   refine p_thenR ?_
   refine p_inR ?_
   refine p_thenR ?_
   obtain rfl := Option.some.inj hg
   refine fin1 (fn := Tryz.f84) s rfl (r_tmp s rfl) ?_
   exact rfl
  replace hg := br_f hg hc26
  apply wp_skip
  refine p_inN ?_
  apply pN
  apply wL
  refine mv s rfl rfl fun a s => ?_
  refine qq s rfl (y_addN (i := i_1) (j := 1) s rfl rfl (in64.2 (by omega))) fun a s => ?_
  refine asg s rfl rfl fun a s => ?_
  apply wN
  exact ⟨m1, Nat.lt_succ_self _, ⟨(i_1 + 1), hg, (s.sb rfl rfl rfl)⟩⟩
 replace hg := br_f hg hc2
 apply wp_exit
 refine p_then ?_
 refine p_then ?_
 refine p_in ?_
 apply pN
 apply wR
 refine asg s rfl rfl fun a s => ?_
 apply wN
 apply wp_ret
 obtain rfl := Option.some.inj hg
 refine fin1 (fn := Tryz.f84) s rfl (r_tmp s rfl) ?_
 exact rfl
set_option maxHeartbeats 1000000 in
theorem c_r21_checksError (n : Nat) (M : Bs) (w0 : World) (hM : ∀ b, M b → b < w0.heap.size) (l_ : (List (List (List UInt8)))) (Ap01 : Option Addr) (cp01 : Nat) (hp01 : SlR (Rep.list Rep.str) M w0 Ap01 (l_).length cp01 (l_)) (r : Int) (hg : r21_checksError n l_ = some r) :
    Calls Tryz.prog 85 [.slice (Ap01) ((l_).length) (cp01)].toArray w0 (Ret noB w0 fun v w => v = .int .i64 (r)) := by
 unfold r21_checksError at hg
 refine enter M noB func85 rfl rfl hM ?_
 intro a s
 replace s := s.es 101 hp01
 apply wR
 refine asg s rfl rfl fun a s => ?_
 apply wN
 apply wQ
 apply wR
 refine asg s rfl rfl fun a s => ?_
 apply wN
 apply wp_block
 refine c_loop (σ := Nat) (fun m1 a w => ∃ (i_1 : Nat), r21_checksError_L0 n l_ m1 i_1 = some r ∧ St (cx f85 M w0) [(0, sl Ap01 l_ cp01), (3, vI (((i_1 : Nat) : Int)))] [] [(101, sF (Rep.list Rep.str) Ap01 cp01 l_)] a w) (fun m1 => m1) n ⟨(0), hg, (s.sb rfl rfl rfl)⟩ ?_
 clear s a; rintro m1 a w ⟨i_1, hg, s⟩
 rcases m1 with _ | m1
 ·rw [r21_checksError_L0] at hg; cases hg
 rw [r21_checksError_L0] at hg
 apply wQ
 apply wR
 refine mv s rfl rfl fun a s => ?_
 refine mv s rfl rfl fun a s => ?_
 refine qq s rfl (y_lenSlice s rfl underlying36) fun a s => ?_
 refine qq s rfl (y_lssN (i := i_1) (j := ((l_).length)) s rfl rfl) fun a s => ?_
 apply wN
 refine c_dec s rfl (fun hc2 => ?_) (fun hc2 => ?_)
 ·replace hg := br_t hg hc2
  have hmx3 := SlR.mx (s.ft 101 rfl)
  apply wp_skip
  apply pN
  apply wQ
  apply wp_block
  apply wQ
  apply wQ
  obtain ⟨x5, hx5, hg⟩ := bind_some hg
  apply wL
  refine mv s rfl rfl fun a s => ?_
  refine mv s rfl rfl fun a s => ?_
  obtain ⟨p7, hep7, hpp7⟩ := SlR.elemX (s.ft 101 rfl) hx5
  refine qq s rfl (y_elem (sz := 1) (i := i_1) s rfl rfl underlying36 rfl hep7 rfl (lt_of_get hx5)) fun a s => ?_
  obtain ⟨hlq8, hmq8, csq8, hdq8, hcq8⟩ := hpp7
  obtain ⟨Aq81, nnq8, cq81, rfl, hq81⟩ := hdq8
  obtain rfl := hq81.len
  replace s := s.ns 103 hq81
  refine qq s rfl (y_ldp1 s rfl hlq8 hmq8 (hcq8 0 _ rfl) underlying25 rfl) fun a s => ?_
  refine qq s rfl (y_lenSlice s rfl underlying25) fun a s => ?_
  refine qq s rfl (y_eqlN (i := ((x5).length)) (j := 0) s rfl rfl) fun a s => ?_
  apply wN
  refine c_dec s rfl (fun hc9 => ?_) (fun hc9 => ?_)
  ·replace hg := br_t hg hc9
   apply wR
   refine asg s rfl rfl fun a s => ?_
   apply wN
   apply wp_ret
   refine p_thenR ?_
   refine p_inR ?_
   refine p_thenR ?_
   refine p_thenR ?_
   refine p_inR ?_
   refine p_thenR ?_
   obtain rfl := Option.some.inj hg
   refine fin1 (fn := Tryz.f85) s rfl (r_tmp s rfl) ?_
   exact rfl
  replace hg := br_f hg hc9
  apply wp_skip
  apply pN
  apply wQ
  apply wR
  refine mv s rfl rfl fun a s => ?_
  refine mv s rfl rfl fun a s => ?_
  obtain ⟨p12, hep12, hpp12⟩ := SlR.elemX (s.ft 101 rfl) hx5
  refine qq s rfl (y_elem (sz := 1) (i := i_1) s rfl rfl underlying36 rfl hep12 rfl (lt_of_get hx5)) fun a s => ?_
  obtain ⟨hlq13, hmq13, csq13, hdq13, hcq13⟩ := hpp12
  obtain ⟨Aq131, nnq13, cq131, rfl, hq131⟩ := hdq13
  obtain rfl := hq131.len
  replace s := s.ns 105 hq131
  refine qq s rfl (y_ldp1 s rfl hlq13 hmq13 (hcq13 0 _ rfl) underlying25 rfl) fun a s => ?_
  refine qq s rfl (y_lenSlice s rfl underlying25) fun a s => ?_
  refine qq s rfl (y_gtrN (i := ((x5).length)) (j := 64) s rfl rfl) fun a s => ?_
  apply wN
  refine c_dec s rfl (fun hc14 => ?_) (fun hc14 => ?_)
  ·replace hg := br_t hg hc14
   have hmx15 := SlR.mx (s.ft 105 rfl)
   apply wR
   refine asg s rfl rfl fun a s => ?_
   apply wN
   apply wp_ret
   refine p_thenR ?_
   refine p_inR ?_
   refine p_thenR ?_
   refine p_thenR ?_
   refine p_inR ?_
   refine p_thenR ?_
   obtain rfl := Option.some.inj hg
   refine fin1 (fn := Tryz.f85) s rfl (r_tmp s rfl) ?_
   exact rfl
  replace hg := br_f hg hc14
  apply wp_skip
  apply pN
  apply wQ
  obtain ⟨r18, hr18, hg⟩ := bind_some hg
  apply wL
  refine mv s rfl rfl fun a s => ?_
  refine mv s rfl rfl fun a s => ?_
  obtain ⟨p21, hep21, hpp21⟩ := SlR.elemX (s.ft 101 rfl) hx5
  refine qq s rfl (y_elem (sz := 1) (i := i_1) s rfl rfl underlying36 rfl hep21 rfl (lt_of_get hx5)) fun a s => ?_
  obtain ⟨hlq22, hmq22, csq22, hdq22, hcq22⟩ := hpp21
  obtain ⟨Aq221, nnq22, cq221, rfl, hq221⟩ := hdq22
  obtain rfl := hq221.len
  replace s := s.ns 107 hq221
  refine qq s rfl (y_ldp1 s rfl hlq22 hmq22 (hcq22 0 _ rfl) underlying25 rfl) fun a s => ?_
  refine lc s rfl func79 (by kernel_rfl) (c_r21_allNames n _ _ s.lt _ _ _ (s.ft 107 rfl) _ _ hr18) fun v23 a w hK hp s => ?_
  obtain rfl := hp
  refine qq s rfl (y_not s rfl) fun a s => ?_
  apply wN
  refine c_cond s rfl (fun hc25 => ?_) (fun hc25 => ?_)
  ·replace hg := br_t hg hc25
   apply wR
   refine asg s rfl rfl fun a s => ?_
   apply wN
   apply wp_ret
   refine p_inR ?_
   refine p_thenR ?_
   refine p_thenR ?_
   refine p_inR ?_
   refine p_thenR ?_
   obtain rfl := Option.some.inj hg
   refine fin1 (fn := Tryz.f85) s rfl (r_tmp s rfl) ?_
   exact rfl
  replace hg := br_n hg hc25
  apply wp_skip
  refine p_inN ?_
  apply pN
  apply wL
  refine mv s rfl rfl fun a s => ?_
  refine qq s rfl (y_addN (i := i_1) (j := 1) s rfl rfl (in64.2 (by omega))) fun a s => ?_
  refine asg s rfl rfl fun a s => ?_
  apply wN
  exact ⟨m1, Nat.lt_succ_self _, ⟨(i_1 + 1), hg, (s.sb rfl rfl rfl)⟩⟩
 replace hg := br_f hg hc2
 apply wp_exit
 refine p_then ?_
 refine p_then ?_
 refine p_in ?_
 apply pN
 apply wR
 refine asg s rfl rfl fun a s => ?_
 apply wN
 apply wp_ret
 obtain rfl := Option.some.inj hg
 refine fin1 (fn := Tryz.f85) s rfl (r_tmp s rfl) ?_
 exact rfl
set_option maxHeartbeats 1000000 in
theorem c_r21_moduleError (n : Nat) (M : Bs) (w0 : World) (hM : ∀ b, M b → b < w0.heap.size) (m_ : Module) (Ap02 : Option Addr) (cp02 : Nat) (Ap03 : Option Addr) (cp03 : Nat) (Ap04 : Option Addr) (cp04 : Nat) (Ap05 : Option Addr) (cp05 : Nat) (Ap06 : Option Addr) (cp06 : Nat) (Ap07 : Option Addr) (cp07 : Nat) (Ap08 : Option Addr) (cp08 : Nat) (Ap09 : Option Addr) (cp09 : Nat) (Ap010 : Option Addr) (cp010 : Nat) (lp01 : (m_.Name).length ≤ 9223372036854775807) (hp02 : SlR Rep.str M w0 Ap02 (m_.Imports).length cp02 (m_.Imports)) (hp03 : SlR RTypeDecl M w0 Ap03 (m_.Types).length cp03 (m_.Types)) (hp04 : SlR RDef M w0 Ap04 (m_.Templates).length cp04 (m_.Templates)) (hp05 : SlR REntryDecl M w0 Ap05 (m_.Entries).length cp05 (m_.Entries)) (hp06 : SlR RLexDecl M w0 Ap06 (m_.LexRules).length cp06 (m_.LexRules)) (hp07 : SlR RDef M w0 Ap07 (m_.Rules).length cp07 (m_.Rules)) (hp08 : SlR RDef M w0 Ap08 (m_.Roots).length cp08 (m_.Roots)) (hp09 : SlR (Rep.list Rep.str) M w0 Ap09 (m_.Checks).length cp09 (m_.Checks)) (hp010 : SlR Rep.str M w0 Ap010 (m_.Drops).length cp010 (m_.Drops)) (r : Int) (hg : r21_moduleError n m_ = some r) :
    Calls Tryz.prog 53 [.agg #[.string (bs (m_.Name)), .slice (Ap02) ((m_.Imports).length) (cp02), .slice (Ap03) ((m_.Types).length) (cp03), .slice (Ap04) ((m_.Templates).length) (cp04), .slice (Ap05) ((m_.Entries).length) (cp05), .slice (Ap06) ((m_.LexRules).length) (cp06), .slice (Ap07) ((m_.Rules).length) (cp07), .slice (Ap08) ((m_.Roots).length) (cp08), .slice (Ap09) ((m_.Checks).length) (cp09), .slice (Ap010) ((m_.Drops).length) (cp010)]].toArray w0 (Ret noB w0 fun v w => v = .int .i64 (r)) := by
 unfold r21_moduleError at hg
 refine enter M noB func53 rfl rfl hM ?_
 intro a s
 replace s := s.es 101 hp02
 replace s := s.es 102 hp03
 replace s := s.es 103 hp04
 replace s := s.es 104 hp05
 replace s := s.es 105 hp06
 replace s := s.es 106 hp07
 replace s := s.es 107 hp08
 replace s := s.es 108 hp09
 replace s := s.es 109 hp010
 apply wR
 refine l_seq rfl (l_box (zs := [vT m_.Name, sl Ap02 m_.Imports cp02, sl Ap03 m_.Types cp03, sl Ap04 m_.Templates cp04, sl Ap05 m_.Entries cp05, sl Ap06 m_.LexRules cp06, sl Ap07 m_.Rules cp07, sl Ap08 m_.Roots cp08, sl Ap09 m_.Checks cp09, sl Ap010 m_.Drops cp010]) s 1000 rfl rfl rfl rfl fun b2 a w hb hK s => ?_)
 refine asg s rfl rfl fun a s => ?_
 apply wN
 apply wQ
 apply wQ
 obtain ⟨r3, hr3, hg⟩ := bind_some hg
 apply wL
 refine qq s rfl (y_boxField (o' := 0) s rfl underlying38 rfl rfl rfl) fun a s => ?_
 refine qq s rfl (y_loadBox1 (kk := 1000) s rfl rfl rfl underlying9 rfl) fun a s => ?_
 refine lc s rfl func77 (by kernel_rfl) (c_r01_Name n _ _ s.lt _ (by omega) _ hr3) fun v6 a w hK hp s => ?_
 obtain rfl := hp
 refine qq s rfl (y_not s rfl) fun a s => ?_
 apply wN
 refine c_cond s rfl (fun hc8 => ?_) (fun hc8 => ?_)
 ·replace hg := br_t hg hc8
  apply wR
  refine asg s rfl rfl fun a s => ?_
  apply wN
  apply wp_ret
  refine p_thenR ?_
  obtain rfl := Option.some.inj hg
  refine fin1 (fn := Tryz.f53) s rfl (r_tmp s rfl) ?_
  exact rfl
 replace hg := br_n hg hc8
 apply wp_skip
 apply pN
 apply wQ
 apply wQ
 obtain ⟨r9, hr9, hg⟩ := bind_some hg
 apply wL
 refine qq s rfl (y_loadAll (kk := 1000) s rfl rfl underlying38 rfl rfl) fun a s => ?_
 refine lc s rfl func78 (by kernel_rfl) (c_r21_long n _ _ s.lt _ _ _ _ _ _ _ _ _ _ _ _ _ _ _ _ _ _ _ (by omega) (s.ft 101 rfl) (s.ft 102 rfl) (s.ft 103 rfl) (s.ft 104 rfl) (s.ft 105 rfl) (s.ft 106 rfl) (s.ft 107 rfl) (s.ft 108 rfl) (s.ft 109 rfl) _ hr9) fun v12 a w hK hp s => ?_
 obtain rfl := hp
 apply wN
 refine c_cond s rfl (fun hc14 => ?_) (fun hc14 => ?_)
 ·replace hg := br_t hg hc14
  apply wR
  refine asg s rfl rfl fun a s => ?_
  apply wN
  apply wp_ret
  refine p_thenR ?_
  obtain rfl := Option.some.inj hg
  refine fin1 (fn := Tryz.f53) s rfl (r_tmp s rfl) ?_
  exact rfl
 replace hg := br_n hg hc14
 apply wp_skip
 apply pN
 apply wQ
 apply wQ
 obtain ⟨r15, hr15, hg⟩ := bind_some hg
 apply wL
 refine qq s rfl (y_boxField (o' := 1) s rfl underlying38 rfl rfl rfl) fun a s => ?_
 refine qq s rfl (y_loadBox1 (kk := 1000) s rfl rfl rfl underlying25 rfl) fun a s => ?_
 refine lc s rfl func79 (by kernel_rfl) (c_r21_allNames n _ _ s.lt _ _ _ (s.ft 101 rfl) _ _ hr15) fun v18 a w hK hp s => ?_
 obtain rfl := hp
 refine qq s rfl (y_not s rfl) fun a s => ?_
 apply wN
 refine c_cond s rfl (fun hc20 => ?_) (fun hc20 => ?_)
 ·replace hg := br_t hg hc20
  apply wR
  refine asg s rfl rfl fun a s => ?_
  apply wN
  apply wp_ret
  refine p_thenR ?_
  obtain rfl := Option.some.inj hg
  refine fin1 (fn := Tryz.f53) s rfl (r_tmp s rfl) ?_
  exact rfl
 replace hg := br_n hg hc20
 apply wp_skip
 apply pN
 apply wQ
 obtain ⟨r21, hr21, hg⟩ := bind_some hg
 obtain ⟨r24, hr24, hg⟩ := bind_some hg
 obtain ⟨r27, hr27, hg⟩ := bind_some hg
 obtain ⟨r30, hr30, hg⟩ := bind_some hg
 obtain ⟨r33, hr33, hg⟩ := bind_some hg
 obtain ⟨r36, hr36, hg⟩ := bind_some hg
 obtain ⟨r39, hr39, hg⟩ := bind_some hg
 obtain ⟨r43, hr43, hg⟩ := bind_some hg
 refine d_plan s [] [(0, some 0), (1, some 1000), (3, some 0), (4, some 1000), (6, some 0), (7, some 1000), (9, some 0), (10, some 1000), (12, some 0), (13, some 1000), (15, some 0), (16, some 1000), (18, some 0), (19, some 1000), (2, none), (5, none), (8, none), (11, none), (14, none), (17, none), (20, none), (21, none), (22, none), (23, none)] rfl (by kernel_rfl) (by kernel_rfl) rfl ?_; clear s; intro wr hZ s; have hR := s.wd
 refine qt s hR rfl (y_boxField (o' := 2) s rfl underlying38 rfl rfl rfl) fun a s => ?_
 refine qt s hR rfl (y_loadBox1 (kk := 1000) s rfl rfl rfl underlying32 rfl) fun a s => ?_
 refine qt s hR rfl (y_boxField (o' := 3) s rfl underlying38 rfl rfl rfl) fun a s => ?_
 refine qt s hR rfl (y_loadBox1 (kk := 1000) s rfl rfl rfl underlying33 rfl) fun a s => ?_
 refine qt s hR rfl (y_boxField (o' := 4) s rfl underlying38 rfl rfl rfl) fun a s => ?_
 refine qt s hR rfl (y_loadBox1 (kk := 1000) s rfl rfl rfl underlying34 rfl) fun a s => ?_
 refine qt s hR rfl (y_boxField (o' := 5) s rfl underlying38 rfl rfl rfl) fun a s => ?_
 refine qt s hR rfl (y_loadBox1 (kk := 1000) s rfl rfl rfl underlying35 rfl) fun a s => ?_
 refine qt s hR rfl (y_boxField (o' := 6) s rfl underlying38 rfl rfl rfl) fun a s => ?_
 refine qt s hR rfl (y_loadBox1 (kk := 1000) s rfl rfl rfl underlying33 rfl) fun a s => ?_
 refine qt s hR rfl (y_boxField (o' := 7) s rfl underlying38 rfl rfl rfl) fun a s => ?_
 refine qt s hR rfl (y_loadBox1 (kk := 1000) s rfl rfl rfl underlying33 rfl) fun a s => ?_
 refine qt s hR rfl (y_boxField (o' := 8) s rfl underlying38 rfl rfl rfl) fun a s => ?_
 refine qt s hR rfl (y_loadBox1 (kk := 1000) s rfl rfl rfl underlying36 rfl) fun a s => ?_
 refine l_take s rfl rfl (l_call (cap := []) s rfl func81 rfl (by kernel_rfl) rfl rfl (c_r21_typesError n _ _ s.lt _ _ _ (s.ft 102 rfl) _ hr21) fun v46 a w hK hp s => ?_)
 replace hZ := Nat.le_trans hZ hK.size; refine ⟨fun g _ h => h.grow hK, ?_⟩; clear hK
 obtain rfl := hp
 refine l_take s rfl rfl (l_call (cap := []) s rfl func82 rfl (by kernel_rfl) rfl rfl (c_r21_defsError n _ _ s.lt _ _ _ (s.ft 103 rfl) _ hr24) fun v48 a w hK hp s => ?_)
 replace hZ := Nat.le_trans hZ hK.size; refine ⟨fun g _ h => h.grow hK, ?_⟩; clear hK
 obtain rfl := hp
 refine l_take s rfl rfl (l_call (cap := []) s rfl func83 rfl (by kernel_rfl) rfl rfl (c_r21_entriesError n _ _ s.lt _ _ _ (s.ft 104 rfl) _ hr27) fun v50 a w hK hp s => ?_)
 replace hZ := Nat.le_trans hZ hK.size; refine ⟨fun g _ h => h.grow hK, ?_⟩; clear hK
 obtain rfl := hp
 refine l_take s rfl rfl (l_call (cap := []) s rfl func84 rfl (by kernel_rfl) rfl rfl (c_r21_lexError n _ _ s.lt _ _ _ (s.ft 105 rfl) _ hr30) fun v52 a w hK hp s => ?_)
 replace hZ := Nat.le_trans hZ hK.size; refine ⟨fun g _ h => h.grow hK, ?_⟩; clear hK
 obtain rfl := hp
 refine l_take s rfl rfl (l_call (cap := []) s rfl func82 rfl (by kernel_rfl) rfl rfl (c_r21_defsError n _ _ s.lt _ _ _ (s.ft 106 rfl) _ hr33) fun v54 a w hK hp s => ?_)
 replace hZ := Nat.le_trans hZ hK.size; refine ⟨fun g _ h => h.grow hK, ?_⟩; clear hK
 obtain rfl := hp
 refine l_take s rfl rfl (l_call (cap := []) s rfl func82 rfl (by kernel_rfl) rfl rfl (c_r21_defsError n _ _ s.lt _ _ _ (s.ft 107 rfl) _ hr36) fun v56 a w hK hp s => ?_)
 replace hZ := Nat.le_trans hZ hK.size; refine ⟨fun g _ h => h.grow hK, ?_⟩; clear hK
 obtain rfl := hp
 refine l_take s rfl rfl (l_call (cap := []) s rfl func85 rfl (by kernel_rfl) rfl rfl (c_r21_checksError n _ _ s.lt _ _ _ (s.ft 108 rfl) _ hr39) fun v58 a w hK hp s => ?_)
 replace hZ := Nat.le_trans hZ hK.size; refine ⟨fun g _ h => h.grow hK, ?_⟩; clear hK
 obtain rfl := hp
 refine l_take s rfl rfl (l_buildDense (sz := 1) s 1721 rfl rfl rfl underlying113 rfl rfl rfl rfl rfl rfl rfl fun b60 a w hbb60 hK s => ?_)
 have hNb60 := NewA.lit hZ hbb60
 clear hbb60
 replace hZ := Nat.le_trans hZ hK.size; refine ⟨fun g _ h => h.grow hK, ?_⟩; clear hK
 replace s := s.add 112 (rdF (Rep.num .i64) (cellsOfL [vI r21, vI r24, vI r27, vI r30, vI r33, vI r36, vI r39]) ([r21, r24, r27, r30, r33, r36, r39])) (RdAll.cons (by exact rfl) (RdAll.cons (by exact rfl) (RdAll.cons (by exact rfl) (RdAll.cons (by exact rfl) (RdAll.cons (by exact rfl) (RdAll.cons (by exact rfl) (RdAll.cons (by exact rfl) (RdAll.nil _ _ _))))))))
 have hT := s
 replace hT := hT.fz (R := (Rep.num .i64)) (kk := 1721) [1000] 113 rfl rfl (hT.ft 112 rfl) rfl
 refine l_take s rfl rfl (l_call (cap := []) s rfl func80 rfl (by kernel_rfl) rfl rfl (c_r21_first n _ _ hT.lt [r21, r24, r27, r30, r33, r36, r39] (some ⟨b60, 0, none⟩) (7) (hT.ft 113 rfl) _ hr43) fun v61 a w hK hp s => ?_)
 replace hZ := Nat.le_trans hZ hK.size; refine ⟨fun g _ h => h.grow hK, ?_⟩; clear hK
 obtain rfl := hp
 refine l_take s rfl rfl (l_quiet s rfl rfl (y_assign s rfl) fun a s => ?_); refine ⟨fun g _ h => h, ?_⟩
 clear hR hZ
 apply pN
 apply wQ
 apply wQ
 obtain ⟨k63, hg, hk63⟩ := jn_some hg
 refine c_post (fun a w => ∃ (t_64 : Bool), k63 t_64 = some r ∧ St (cx f53 M w0) [(3, vI r43), (44, .bool (t_64))] [] [] a w) ?_ ?_
 ·rcases Decidable.em (r43 = 0) with hs65 | hs65
  ·have hs65e := decide_eq_true hs65
   replace hg := br_t hg hs65
   obtain ⟨r66, hr66, hg⟩ := bind_some hg
   apply wL
   refine mv s rfl rfl fun a s => ?_
   refine qq s rfl (yl_b (y_eql s rfl rfl) hs65e) fun a s => ?_
   refine mv s rfl rfl fun a s => ?_
   refine gy s rfl (y_boxField (o' := 9) s rfl underlying38 rfl rfl rfl) fun a s => ?_
   refine gy s rfl (y_loadBox1 (kk := 1000) s rfl rfl rfl underlying25 rfl) fun a s => ?_
   refine gl s rfl (l_call (cap := []) s rfl func79 rfl (by kernel_rfl) rfl rfl (c_r21_allNames n _ _ s.lt _ _ _ (s.ft 109 rfl) _ _ hr66) fun v69 a w hK hp s => ?_)
   obtain rfl := hp
   refine gy s rfl (y_not s rfl) fun a s => ?_
   refine qq s rfl (y_pick_t s rfl rfl) fun a s => ?_
   apply wN
   exact ⟨(!(r66)), hg, (s.sb rfl rfl rfl)⟩
  have hs65e := decide_eq_false hs65
  replace hg := br_f hg hs65
  apply wL
  refine mv s rfl rfl fun a s => ?_
  refine qq s rfl (yl_b (y_eql s rfl rfl) hs65e) fun a s => ?_
  refine mv s rfl rfl fun a s => ?_
  refine gn s rfl fun a s => ?_
  refine gn s rfl fun a s => ?_
  refine gn s rfl fun a s => ?_
  refine gn s rfl fun a s => ?_
  refine qq s rfl (y_pick_f s rfl rfl) fun a s => ?_
  apply wN
  exact ⟨(false), hg, (s.sb rfl rfl rfl)⟩
 clear s a; rintro a w ⟨t_64, hg, s⟩
 subst hk63
 refine c_cond s rfl (fun hc71 => ?_) (fun hc71 => ?_)
 ·replace hg := br_t hg hc71
  apply wL
  refine asg s rfl rfl fun a s => ?_
  apply wN
  apply wR
  refine mv s rfl rfl fun a s => ?_
  refine asg s rfl rfl fun a s => ?_
  apply wN
  apply wp_ret
  obtain rfl := Option.some.inj hg
  refine fin1 (fn := Tryz.f53) s rfl (r_tmp s rfl) ?_
  exact rfl
 replace hg := br_n hg hc71
 apply wp_skip
 apply pN
 apply wR
 refine mv s rfl rfl fun a s => ?_
 refine asg s rfl rfl fun a s => ?_
 apply wN
 apply wp_ret
 obtain rfl := Option.some.inj hg
 refine fin1 (fn := Tryz.f53) s rfl (r_tmp s rfl) ?_
 exact rfl
set_option maxHeartbeats 1000000 in
theorem c_r21_joined (n : Nat) (M : Bs) (w0 : World) (hM : ∀ b, M b → b < w0.heap.size) (l_ : (List (List UInt8))) (Ap01 : Option Addr) (cp01 : Nat) (hp01 : SlR Rep.str M w0 Ap01 (l_).length cp01 (l_)) (between_ : (List UInt8)) (lp11 : (between_).length ≤ 9223372036854775807) (r : (List UInt8)) (hg : r21_joined n l_ between_ = some r) :
    Calls Tryz.prog 88 [.slice (Ap01) ((l_).length) (cp01), .string (bs (between_))].toArray w0 (Ret noB w0 fun v w => v = .string (bs (r)) ∧ ((r).length ≤ 9223372036854775807)) := by
 unfold r21_joined at hg
 refine enter M noB func88 rfl rfl hM ?_
 intro a s
 replace s := s.es 101 hp01
 apply wR
 refine asg s rfl rfl fun a s => ?_
 apply wN
 apply wR
 refine asg s rfl rfl fun a s => ?_
 apply wN
 apply wQ
 apply wR
 refine asg s rfl rfl fun a s => ?_
 apply wN
 apply wp_block
 refine c_loop (σ := Nat) (fun m1 a w => ∃ (s_1 : (List UInt8)) (i_2 : Nat), r21_joined_L0 n l_ between_ m1 s_1 i_2 = some r ∧ ((s_1).length ≤ 9223372036854775807) ∧ St (cx f88 M w0) [(0, sl Ap01 l_ cp01), (1, vT between_), (5, vT s_1), (6, vI (((i_2 : Nat) : Int)))] [] [(101, sF Rep.str Ap01 cp01 l_)] a w) (fun m1 => m1) n ⟨([]), (0), hg, (Nat.le_of_ble_eq_true (by rfl)), (s.sb rfl rfl rfl)⟩ ?_
 clear s a; rintro m1 a w ⟨s_1, i_2, hg, ls_1, s⟩
 rcases m1 with _ | m1
 ·rw [r21_joined_L0] at hg; cases hg
 rw [r21_joined_L0] at hg
 apply wQ
 apply wR
 refine mv s rfl rfl fun a s => ?_
 refine mv s rfl rfl fun a s => ?_
 refine qq s rfl (y_lenSlice s rfl underlying25) fun a s => ?_
 refine qq s rfl (y_lssN (i := i_2) (j := ((l_).length)) s rfl rfl) fun a s => ?_
 apply wN
 refine c_dec s rfl (fun hc3 => ?_) (fun hc3 => ?_)
 ·replace hg := br_t hg hc3
  have hmx4 := SlR.mx (s.ft 101 rfl)
  apply wp_skip
  apply pN
  apply wQ
  apply wp_block
  apply wQ
  apply wR
  refine mv s rfl rfl fun a s => ?_
  refine qq s rfl (y_gtrN (i := i_2) (j := 0) s rfl rfl) fun a s => ?_
  apply wN
  obtain ⟨k5, hg, hk5⟩ := jn_some hg
  refine c_post (fun a w => ∃ (s_6 : (List UInt8)), k5 s_6 = some r ∧ ((s_6).length ≤ 9223372036854775807) ∧ St (cx f88 M w0) [(0, sl Ap01 l_ cp01), (1, vT between_), (5, vT s_6), (6, vI (((i_2 : Nat) : Int)))] [] [(101, sF Rep.str Ap01 cp01 l_)] a w) ?_ ?_
  ·refine c_dec s rfl (fun hc7 => ?_) (fun hc7 => ?_)
   ·replace hg := br_t hg hc7
    obtain ⟨hk8, hg⟩ := chk_some hg
    apply wL
    refine mv s rfl rfl fun a s => ?_
    refine mv s rfl rfl fun a s => ?_
    refine qq s rfl (y_concat s rfl rfl hk8) fun a s => ?_
    refine asg s rfl rfl fun a s => ?_
    apply wN
    exact ⟨(s_1 ++ between_), hg, (by rw [List.length_append]; omega), (s.sb rfl rfl rfl)⟩
   replace hg := br_f hg hc7
   apply wp_skip
   apply pN
   exact ⟨(s_1), hg, (by omega), (s.sb rfl rfl rfl)⟩
  clear s a; rintro a w ⟨s_6, hg, ls_6, s⟩
  subst hk5
  obtain ⟨x10, hx10, hg⟩ := bind_some hg
  obtain ⟨hk12, hg⟩ := chk_some hg
  apply wL
  refine mv s rfl rfl fun a s => ?_
  refine mv s rfl rfl fun a s => ?_
  refine mv s rfl rfl fun a s => ?_
  obtain ⟨p13, hep13, hpp13⟩ := SlR.elemX (s.ft 101 rfl) hx10
  refine qq s rfl (y_elem (sz := 1) (i := i_2) s rfl rfl underlying25 rfl hep13 rfl (lt_of_get hx10)) fun a s => ?_
  obtain ⟨hlq14, hmq14, csq14, hdq14, hcq14⟩ := hpp13
  obtain ⟨rfl, lq141⟩ := hdq14
  refine qq s rfl (y_ldp1 s rfl hlq14 hmq14 (hcq14 0 _ rfl) underlying9 rfl) fun a s => ?_
  refine qq s rfl (y_concat s rfl rfl hk12) fun a s => ?_
  refine asg s rfl rfl fun a s => ?_
  apply wO
  refine p_inN ?_
  apply pN
  apply wL
  refine mv s rfl rfl fun a s => ?_
  refine qq s rfl (y_addN (i := i_2) (j := 1) s rfl rfl (in64.2 (by omega))) fun a s => ?_
  refine asg s rfl rfl fun a s => ?_
  apply wN
  exact ⟨m1, Nat.lt_succ_self _, ⟨(s_6 ++ x10), (i_2 + 1), hg, (by rw [List.length_append]; omega), (s.sb rfl rfl rfl)⟩⟩
 replace hg := br_f hg hc3
 apply wp_exit
 refine p_then ?_
 refine p_then ?_
 refine p_in ?_
 apply pN
 apply wR
 refine mv s rfl rfl fun a s => ?_
 refine asg s rfl rfl fun a s => ?_
 apply wN
 apply wp_ret
 obtain rfl := Option.some.inj hg
 refine fin1 (fn := Tryz.f88) s rfl (r_tmp s rfl) ?_
 exact ⟨rfl, (by omega)⟩
set_option maxHeartbeats 1000000 in
theorem c_r21_typed (n : Nat) (M : Bs) (w0 : World) (hM : ∀ b, M b → b < w0.heap.size) (x_ : TypeDecl) (Ap02 : Option Addr) (cp02 : Nat) (Ap03 : Option Addr) (cp03 : Nat) (lp01 : (x_.Name).length ≤ 9223372036854775807) (hp02 : SlR Rep.str M w0 Ap02 (x_.Supers).length cp02 (x_.Supers)) (hp03 : SlR RFeatDecl M w0 Ap03 (x_.Feats).length cp03 (x_.Feats)) (r : (List UInt8)) (hg : r21_typed n x_ = some r) :
    Calls Tryz.prog 86 [.agg #[.string (bs (x_.Name)), .slice (Ap02) ((x_.Supers).length) (cp02), .slice (Ap03) ((x_.Feats).length) (cp03)]].toArray w0 (Ret noB w0 fun v w => v = .string (bs (r)) ∧ ((r).length ≤ 9223372036854775807)) := by
 unfold r21_typed at hg
 refine enter M noB func86 rfl rfl hM ?_
 intro a s
 replace s := s.es 101 hp02
 replace s := s.es 102 hp03
 apply wR
 refine l_seq rfl (l_box (zs := [vT x_.Name, sl Ap02 x_.Supers cp02, sl Ap03 x_.Feats cp03]) s 1000 rfl rfl rfl rfl fun b2 a w hb hK s => ?_)
 refine asg s rfl rfl fun a s => ?_
 apply wN
 apply wQ
 obtain ⟨hk3, hg⟩ := chk_some hg
 apply wL
 refine qq s rfl (y_boxField (o' := 0) s rfl underlying49 rfl rfl rfl) fun a s => ?_
 refine qq s rfl (y_loadBox1 (kk := 1000) s rfl rfl rfl underlying9 rfl) fun a s => ?_
 refine qq s rfl (y_concat s rfl rfl hk3) fun a s => ?_
 refine asg s rfl rfl fun a s => ?_
 apply wN
 apply wQ
 apply wR
 refine qq s rfl (y_boxField (o' := 1) s rfl underlying49 rfl rfl rfl) fun a s => ?_
 refine qq s rfl (y_loadBox1 (kk := 1000) s rfl rfl rfl underlying25 rfl) fun a s => ?_
 refine qq s rfl (y_lenSlice s rfl underlying25) fun a s => ?_
 refine qq s rfl (y_gtrN (i := ((x_.Supers).length)) (j := 0) s rfl rfl) fun a s => ?_
 apply wN
 obtain ⟨k4, hg, hk4⟩ := jn_some hg
 refine c_post (fun a w => ∃ (s_5 : (List UInt8)), k4 s_5 = some r ∧ ((s_5).length ≤ 9223372036854775807) ∧ St (cx f86 M w0) [(1, vP b2 0), (3, vT s_5)] [(1000, Ob.box b2 [vT x_.Name, sl Ap02 x_.Supers cp02, sl Ap03 x_.Feats cp03] 49)] [(101, sF Rep.str Ap02 cp02 x_.Supers), (102, sF RFeatDecl Ap03 cp03 x_.Feats)] a w) ?_ ?_
 ·refine c_dec s rfl (fun hc6 => ?_) (fun hc6 => ?_)
  ·replace hg := br_t hg hc6
   have hmx7 := SlR.mx (s.ft 101 rfl)
   obtain ⟨hk8, hg⟩ := chk_some hg
   obtain ⟨r9, hr9, hg⟩ := bind_some hg
   obtain ⟨hk12, hg⟩ := chk_some hg
   apply wL
   refine mv s rfl rfl fun a s => ?_
   refine qq s rfl (y_concat s rfl rfl hk8) fun a s => ?_
   refine qq s rfl (y_boxField (o' := 1) s rfl underlying49 rfl rfl rfl) fun a s => ?_
   refine qq s rfl (y_loadBox1 (kk := 1000) s rfl rfl rfl underlying25 rfl) fun a s => ?_
   refine lc s rfl func88 (by kernel_rfl) (c_r21_joined n _ _ s.lt _ _ _ (s.ft 101 rfl) _ (Nat.le_of_ble_eq_true (by rfl)) _ hr9) fun v13 a w hK hp s => ?_
   obtain ⟨rfl, lu14a1⟩ := hp
   refine qq s rfl (y_concat s rfl rfl hk12) fun a s => ?_
   refine asg s rfl rfl fun a s => ?_
   apply wN
   exact ⟨((([116, 121, 112, 101, 32] ++ x_.Name) ++ [32, 60, 32]) ++ r9), hg, (by rw [List.length_append]; omega), (s.sb rfl rfl rfl)⟩
  replace hg := br_f hg hc6
  apply wp_skip
  apply pN
  exact ⟨([116, 121, 112, 101, 32] ++ x_.Name), hg, (by rw [List.length_append]; omega), (s.sb rfl rfl rfl)⟩
 clear s a; rintro a w ⟨s_5, hg, ls_5, s⟩
 subst hk4
 apply wQ
 apply wR
 refine asg s rfl rfl fun a s => ?_
 apply wN
 apply wp_block
 refine c_loop (σ := Nat) (fun m1 a w => ∃ (s_15 : (List UInt8)) (i_16 : Nat), r21_typed_L0 n x_ m1 s_15 i_16 = some r ∧ ((s_15).length ≤ 9223372036854775807) ∧ St (cx f86 M w0) [(1, vP b2 0), (3, vT s_15), (4, vI (((i_16 : Nat) : Int)))] [(1000, Ob.box b2 [vT x_.Name, sl Ap02 x_.Supers cp02, sl Ap03 x_.Feats cp03] 49)] [(101, sF Rep.str Ap02 cp02 x_.Supers), (102, sF RFeatDecl Ap03 cp03 x_.Feats)] a w) (fun m1 => m1) n ⟨(s_5), (0), hg, (by omega), (s.sb rfl rfl rfl)⟩ ?_
 clear s a; rintro m1 a w ⟨s_15, i_16, hg, ls_15, s⟩
 rcases m1 with _ | m1
 ·rw [r21_typed_L0] at hg; cases hg
 rw [r21_typed_L0] at hg
 apply wQ
 apply wR
 refine mv s rfl rfl fun a s => ?_
 refine qq s rfl (y_boxField (o' := 2) s rfl underlying49 rfl rfl rfl) fun a s => ?_
 refine qq s rfl (y_loadBox1 (kk := 1000) s rfl rfl rfl underlying47 rfl) fun a s => ?_
 refine qq s rfl (y_lenSlice s rfl underlying47) fun a s => ?_
 refine qq s rfl (y_lssN (i := i_16) (j := ((x_.Feats).length)) s rfl rfl) fun a s => ?_
 apply wN
 refine c_dec s rfl (fun hc17 => ?_) (fun hc17 => ?_)
 ·replace hg := br_t hg hc17
  have hmx18 := SlR.mx (s.ft 102 rfl)
  apply wp_skip
  apply pN
  apply wQ
  apply wp_block
  apply wQ
  apply wR
  refine mv s rfl rfl fun a s => ?_
  refine qq s rfl (y_eqlN (i := i_16) (j := 0) s rfl rfl) fun a s => ?_
  apply wN
  obtain ⟨k19, hg, hk19⟩ := jn_some hg
  refine c_post (fun a w => ∃ (s_20 : (List UInt8)), k19 s_20 = some r ∧ ((s_20).length ≤ 9223372036854775807) ∧ St (cx f86 M w0) [(1, vP b2 0), (3, vT s_20), (4, vI (((i_16 : Nat) : Int)))] [(1000, Ob.box b2 [vT x_.Name, sl Ap02 x_.Supers cp02, sl Ap03 x_.Feats cp03] 49)] [(101, sF Rep.str Ap02 cp02 x_.Supers), (102, sF RFeatDecl Ap03 cp03 x_.Feats)] a w) ?_ ?_
  ·refine c_dec s rfl (fun hc21 => ?_) (fun hc21 => ?_)
   ·replace hg := br_t hg hc21
    obtain ⟨hk22, hg⟩ := chk_some hg
    apply wL
    refine mv s rfl rfl fun a s => ?_
    refine qq s rfl (y_concat s rfl rfl hk22) fun a s => ?_
    refine asg s rfl rfl fun a s => ?_
    apply wN
    exact ⟨(s_15 ++ [32, 58, 32]), hg, (by rw [List.length_append]; omega), (s.sb rfl rfl rfl)⟩
   replace hg := br_f hg hc21
   obtain ⟨hk23, hg⟩ := chk_some hg
   apply wL
   refine mv s rfl rfl fun a s => ?_
   refine qq s rfl (y_concat s rfl rfl hk23) fun a s => ?_
   refine asg s rfl rfl fun a s => ?_
   apply wN
   exact ⟨(s_15 ++ [44, 32]), hg, (by rw [List.length_append]; omega), (s.sb rfl rfl rfl)⟩
  clear s a; rintro a w ⟨s_20, hg, ls_20, s⟩
  subst hk19
  obtain ⟨x25, hx25, hg⟩ := bind_some hg
  obtain ⟨hk27, hg⟩ := chk_some hg
  obtain ⟨hk28, hg⟩ := chk_some hg
  obtain ⟨hk31, hg⟩ := chk_some hg
  refine d_plan s [] [(0, some 0), (1, some 0), (2, some 1000), (3, some 0), (4, some 0), (5, some 0), (6, some 0), (7, some 0), (8, some 0), (9, some 0), (10, some 1000), (11, some 0), (12, some 0), (13, some 0), (14, some 0), (15, some 0), (16, some 0)] rfl (by kernel_rfl) (by kernel_rfl) rfl ?_; clear s; intro wr hZ s; have hR := s.wd
  refine qt s hR rfl (y_move s rfl) fun a s => ?_
  refine qt s hR rfl (y_boxField (o' := 2) s rfl underlying49 rfl rfl rfl) fun a s => ?_
  refine qt s hR rfl (y_loadBox1 (kk := 1000) s rfl rfl rfl underlying47 rfl) fun a s => ?_
  refine qt s hR rfl (y_move s rfl) fun a s => ?_
  obtain ⟨p32, hep32, hpp32⟩ := SlR.elemX (s.ft 102 rfl) hx25
  refine qt s hR rfl (y_elem (sz := 2) (i := i_16) s rfl rfl underlying47 rfl hep32 rfl (lt_of_get hx25)) fun a s => ?_
  refine qt s hR rfl (y_ptrField (o' := 0) s rfl underlying82 rfl rfl rfl) fun a s => ?_
  obtain ⟨hlq33, hmq33, csq33, hdq33, hcq33⟩ := hpp32
  obtain ⟨rfl, lq331, lq332⟩ := RFeatDecl.open hdq33
  refine qt s hR rfl (y_ldp1 s rfl hlq33 hmq33 (hcq33 0 _ rfl) underlying9 rfl) fun a s => ?_
  refine qt s hR rfl (y_concat s rfl rfl hk27) fun a s => ?_
  refine qt s hR rfl (y_concat s rfl rfl hk28) fun a s => ?_
  refine qt s hR rfl (y_boxField (o' := 2) s rfl underlying49 rfl rfl rfl) fun a s => ?_
  refine qt s hR rfl (y_loadBox1 (kk := 1000) s rfl rfl rfl underlying47 rfl) fun a s => ?_
  refine qt s hR rfl (y_move s rfl) fun a s => ?_
  obtain ⟨p34, hep34, hpp34⟩ := SlR.elemX (s.ft 102 rfl) hx25
  refine qt s hR rfl (y_elem (sz := 2) (i := i_16) s rfl rfl underlying47 rfl hep34 rfl (lt_of_get hx25)) fun a s => ?_
  refine qt s hR rfl (y_ptrField (o' := 1) s rfl underlying82 rfl rfl rfl) fun a s => ?_
  obtain ⟨hlq35, hmq35, csq35, hdq35, hcq35⟩ := hpp34
  obtain ⟨rfl, lq351, lq352⟩ := RFeatDecl.open hdq35
  refine qt s hR rfl (y_ldp1 s rfl hlq35 hmq35 (hcq35 1 _ rfl) underlying9 rfl) fun a s => ?_
  refine qt s hR rfl (y_concat s rfl rfl hk31) fun a s => ?_
  refine qt s hR rfl (y_assign s rfl) fun a s => ?_
  clear hR hZ
  refine p_inN ?_
  apply pN
  apply wL
  refine mv s rfl rfl fun a s => ?_
  refine qq s rfl (y_addN (i := i_16) (j := 1) s rfl rfl (in64.2 (by omega))) fun a s => ?_
  refine asg s rfl rfl fun a s => ?_
  apply wN
  exact ⟨m1, Nat.lt_succ_self _, ⟨(((s_20 ++ x25.Feat) ++ [32]) ++ x25.Value), (i_16 + 1), hg, (by rw [List.length_append]; omega), (s.sb rfl rfl rfl)⟩⟩
 replace hg := br_f hg hc17
 apply wp_exit
 refine p_then ?_
 refine p_then ?_
 refine p_in ?_
 apply pN
 apply wQ
 obtain ⟨hk36, hg⟩ := chk_some hg
 apply wL
 refine mv s rfl rfl fun a s => ?_
 refine qq s rfl (y_concat s rfl rfl hk36) fun a s => ?_
 refine asg s rfl rfl fun a s => ?_
 apply wN
 apply wp_ret
 obtain rfl := Option.some.inj hg
 refine fin1 (fn := Tryz.f86) s rfl (r_tmp s rfl) ?_
 exact ⟨rfl, (by rw [List.length_append]; omega)⟩
set_option maxHeartbeats 1000000 in
theorem c_r19_joined (n : Nat) (via_ : Desc → Option (List UInt8)) (c_via : ∀ (M : Bs) (w0 : World) (hM : ∀ b, M b → b < w0.heap.size) (t_ : Desc) (Ap03 : Option Addr) (cp03 : Nat) (Ap04 : Option Addr) (cp04 : Nat) (lp02 : (t_.Name).length ≤ 9223372036854775807) (hp03 : SlR Rep.str M w0 Ap03 (t_.Path).length cp03 (t_.Path)) (hp04 : SlR RDesc M w0 Ap04 (t_.Kids).length cp04 (t_.Kids)) (r : (List UInt8)) (hg : via_ t_ = some r), Calls Tryz.prog 132 [.agg #[.int .i64 (t_.Op), .string (bs (t_.Name)), .slice (Ap03) ((t_.Path).length) (cp03), .slice (Ap04) ((t_.Kids).length) (cp04)]].toArray w0 (Ret noB w0 fun v w => v = .string (bs (r)) ∧ ((r).length ≤ 9223372036854775807))) (M : Bs) (w0 : World) (hM : ∀ b, M b → b < w0.heap.size) (l_ : (List Desc)) (Ap01 : Option Addr) (cp01 : Nat) (hp01 : SlR RDesc M w0 Ap01 (l_).length cp01 (l_)) (between_ : (List UInt8)) (lp11 : (between_).length ≤ 9223372036854775807) (last_ : (List UInt8)) (lp21 : (last_).length ≤ 9223372036854775807) (r : (List UInt8)) (hg : r19_joined n via_ l_ between_ last_ = some r) :
    Calls Tryz.prog 138 [.slice (Ap01) ((l_).length) (cp01), .string (bs (between_)), .string (bs (last_))].toArray w0 (Ret noB w0 fun v w => v = .string (bs (r)) ∧ ((r).length ≤ 9223372036854775807)) := by
 unfold r19_joined at hg
 refine enter M noB func138 rfl rfl hM ?_
 intro a s
 replace s := s.es 101 hp01
 apply wR
 refine asg s rfl rfl fun a s => ?_
 apply wN
 apply wR
 refine asg s rfl rfl fun a s => ?_
 apply wN
 apply wQ
 apply wR
 refine asg s rfl rfl fun a s => ?_
 apply wN
 apply wp_block
 refine c_loop (σ := Nat) (fun m1 a w => ∃ (s_1 : (List UInt8)) (i_2 : Nat), r19_joined_L0 n l_ between_ last_ via_ m1 s_1 i_2 = some r ∧ ((s_1).length ≤ 9223372036854775807) ∧ St (cx f138 M w0) [(0, sl Ap01 l_ cp01), (1, vT between_), (2, vT last_), (7, vT s_1), (8, vI (((i_2 : Nat) : Int)))] [] [(101, sF RDesc Ap01 cp01 l_)] a w) (fun m1 => m1) n ⟨([]), (0), hg, (Nat.le_of_ble_eq_true (by rfl)), (s.sb rfl rfl rfl)⟩ ?_
 clear s a; rintro m1 a w ⟨s_1, i_2, hg, ls_1, s⟩
 rcases m1 with _ | m1
 ·rw [r19_joined_L0] at hg; cases hg
 rw [r19_joined_L0] at hg
 apply wQ
 apply wR
 refine mv s rfl rfl fun a s => ?_
 refine mv s rfl rfl fun a s => ?_
 refine qq s rfl (y_lenSlice s rfl underlying58) fun a s => ?_
 refine qq s rfl (y_lssN (i := i_2) (j := ((l_).length)) s rfl rfl) fun a s => ?_
 apply wN
 refine c_dec s rfl (fun hc3 => ?_) (fun hc3 => ?_)
 ·replace hg := br_t hg hc3
  have hmx4 := SlR.mx (s.ft 101 rfl)
  apply wp_skip
  apply pN
  apply wQ
  apply wp_block
  apply wQ
  obtain ⟨k5, hg, hk5⟩ := jn_some hg
  refine c_post (fun a w => ∃ (s_6 : (List UInt8)), k5 s_6 = some r ∧ ((s_6).length ≤ 9223372036854775807) ∧ St (cx f138 M w0) [(0, sl Ap01 l_ cp01), (1, vT between_), (2, vT last_), (7, vT s_6), (8, vI (((i_2 : Nat) : Int)))] [] [(101, sF RDesc Ap01 cp01 l_)] a w) ?_ ?_
  ·apply wp_block
   apply wQ
   obtain ⟨k7, hg, hk7⟩ := jn_some hg
   refine c_post (fun a w => ∃ (t_8 : Bool), k7 t_8 = some r ∧ St (cx f138 M w0) [(0, sl Ap01 l_ cp01), (1, vT between_), (2, vT last_), (7, vT s_1), (8, vI (((i_2 : Nat) : Int))), (15, .bool (t_8))] [] [(101, sF RDesc Ap01 cp01 l_)] a w) ?_ ?_
   ·rcases Decidable.em ((0 : Nat) < i_2) with hs9 | hs9
    ·have hs9e := decide_eq_true hs9
     replace hg := br_t hg hs9
     apply wL
     refine mv s rfl rfl fun a s => ?_
     refine qq s rfl (yl_b (y_gtrN (i := i_2) (j := 0) s rfl rfl) hs9e) fun a s => ?_
     refine mv s rfl rfl fun a s => ?_
     refine gm s rfl rfl fun a s => ?_
     refine gm s rfl rfl fun a s => ?_
     refine gy s rfl (y_lenSlice s rfl underlying58) fun a s => ?_
     have hmx10 := SlR.mx (s.ft 101 rfl)
     refine gy s rfl (y_sub s rfl rfl (in64.2 (by omega))) fun a s => ?_
     refine gy s rfl (y_eql s rfl rfl) fun a s => ?_
     refine qq s rfl (y_pick_t s rfl rfl) fun a s => ?_
     refine asg s rfl rfl fun a s => ?_
     apply wN
     exact ⟨(decide (((i_2 : Nat) : Int) = ((((l_).length : Nat) : Int) - 1))), hg, (s.sb rfl rfl rfl)⟩
    have hs9e := decide_eq_false hs9
    replace hg := br_f hg hs9
    apply wL
    refine mv s rfl rfl fun a s => ?_
    refine qq s rfl (yl_b (y_gtrN (i := i_2) (j := 0) s rfl rfl) hs9e) fun a s => ?_
    refine mv s rfl rfl fun a s => ?_
    refine gn s rfl fun a s => ?_
    refine gn s rfl fun a s => ?_
    refine gn s rfl fun a s => ?_
    refine gn s rfl fun a s => ?_
    refine gn s rfl fun a s => ?_
    refine qq s rfl (y_pick_f s rfl rfl) fun a s => ?_
    refine asg s rfl rfl fun a s => ?_
    apply wN
    exact ⟨(false), hg, (s.sb rfl rfl rfl)⟩
   clear s a; rintro a w ⟨t_8, hg, s⟩
   subst hk7
   refine c_cond s rfl (fun hc11 => ?_) (fun hc11 => ?_)
   ·replace hg := br_t hg hc11
    obtain ⟨hk12, hg⟩ := chk_some hg
    apply wL
    refine mv s rfl rfl fun a s => ?_
    refine mv s rfl rfl fun a s => ?_
    refine qq s rfl (y_concat s rfl rfl hk12) fun a s => ?_
    refine asg s rfl rfl fun a s => ?_
    apply wO
    refine p_inN ?_
    apply pN
    exact ⟨(s_1 ++ last_), hg, (by rw [List.length_append]; omega), (s.sb rfl rfl rfl)⟩
   replace hg := br_n hg hc11
   apply wR
   refine mv s rfl rfl fun a s => ?_
   refine qq s rfl (y_gtrN (i := i_2) (j := 0) s rfl rfl) fun a s => ?_
   refine asg s rfl rfl fun a s => ?_
   apply wN
   refine c_dec s rfl (fun hc13 => ?_) (fun hc13 => ?_)
   ·replace hg := br_t hg hc13
    obtain ⟨hk14, hg⟩ := chk_some hg
    apply wL
    refine mv s rfl rfl fun a s => ?_
    refine mv s rfl rfl fun a s => ?_
    refine qq s rfl (y_concat s rfl rfl hk14) fun a s => ?_
    refine asg s rfl rfl fun a s => ?_
    apply wO
    refine p_inN ?_
    apply pN
    exact ⟨(s_1 ++ between_), hg, (by rw [List.length_append]; omega), (s.sb rfl rfl rfl)⟩
   replace hg := br_f hg hc13
   apply wp_skip
   refine p_inN ?_
   apply pN
   exact ⟨(s_1), hg, (by omega), (s.sb rfl rfl rfl)⟩
  clear s a; rintro a w ⟨s_6, hg, ls_6, s⟩
  subst hk5
  obtain ⟨x16, hx16, hg⟩ := bind_some hg
  obtain ⟨r18, hr18, hg⟩ := bind_some hg
  obtain ⟨hk21, hg⟩ := chk_some hg
  apply wL
  refine mv s rfl rfl fun a s => ?_
  refine mv s rfl rfl fun a s => ?_
  refine mv s rfl rfl fun a s => ?_
  obtain ⟨p22, hep22, hpp22⟩ := SlR.elemX (s.ft 101 rfl) hx16
  refine qq s rfl (y_elem (sz := 4) (i := i_2) s rfl rfl underlying58 rfl hep22 rfl (lt_of_get hx16)) fun a s => ?_
  obtain ⟨hlq23, hmq23, csq23, hdq23, hcq23⟩ := hpp22
  obtain ⟨Aq233, cq233, Aq234, cq234, rfl, lq232, hq233, hq234⟩ := RDesc.open hdq23
  replace s := s.ns 104 hq233
  replace s := s.ns 105 hq234
  refine qq s rfl (y_ldp s rfl hlq23 hmq23 (by simpa using hcq23) underlying60 rfl rfl) fun a s => ?_
  refine lc s rfl func132 (by kernel_rfl) (c_via _ _ s.lt _ _ _ _ _ (by omega) (s.ft 104 rfl) (s.ft 105 rfl) _ hr18) fun v24 a w hK hp s => ?_
  obtain ⟨rfl, lu25a1⟩ := hp
  refine qq s rfl (y_concat s rfl rfl hk21) fun a s => ?_
  refine asg s rfl rfl fun a s => ?_
  apply wO
  refine p_inN ?_
  apply pN
  apply wL
  refine mv s rfl rfl fun a s => ?_
  refine qq s rfl (y_addN (i := i_2) (j := 1) s rfl rfl (in64.2 (by omega))) fun a s => ?_
  refine asg s rfl rfl fun a s => ?_
  apply wN
  exact ⟨m1, Nat.lt_succ_self _, ⟨(s_6 ++ r18), (i_2 + 1), hg, (by rw [List.length_append]; omega), (s.sb rfl rfl rfl)⟩⟩
 replace hg := br_f hg hc3
 apply wp_exit
 refine p_then ?_
 refine p_then ?_
 refine p_in ?_
 apply pN
 apply wR
 refine mv s rfl rfl fun a s => ?_
 refine asg s rfl rfl fun a s => ?_
 apply wN
 apply wp_ret
 obtain rfl := Option.some.inj hg
 refine fin1 (fn := Tryz.f138) s rfl (r_tmp s rfl) ?_
 exact ⟨rfl, (by omega)⟩
set_option maxHeartbeats 1000000 in
theorem c_r19_written (n : Nat) : ∀ (M : Bs) (w0 : World) (hM : ∀ b, M b → b < w0.heap.size) (t_ : Desc) (Ap03 : Option Addr) (cp03 : Nat) (Ap04 : Option Addr) (cp04 : Nat) (lp02 : (t_.Name).length ≤ 9223372036854775807) (hp03 : SlR Rep.str M w0 Ap03 (t_.Path).length cp03 (t_.Path)) (hp04 : SlR RDesc M w0 Ap04 (t_.Kids).length cp04 (t_.Kids)) (r : (List UInt8)) (hg : r19_written n t_ = some r),
    Calls Tryz.prog 132 [.agg #[.int .i64 (t_.Op), .string (bs (t_.Name)), .slice (Ap03) ((t_.Path).length) (cp03), .slice (Ap04) ((t_.Kids).length) (cp04)]].toArray w0 (Ret noB w0 fun v w => v = .string (bs (r)) ∧ ((r).length ≤ 9223372036854775807)) := by
 induction n with
 | zero => intros; rename_i hg; rw [r19_written] at hg; cases hg
 | succ n c_self =>
 intro M w0 hM t_ Ap03 cp03 Ap04 cp04 lp02 hp03 hp04 r hg
 rw [r19_written] at hg
 refine enter M noB func132 rfl rfl hM ?_
 intro a s
 replace s := s.es 101 hp03
 replace s := s.es 102 hp04
 apply wR
 refine l_seq rfl (l_box (zs := [vI t_.Op, vT t_.Name, sl Ap03 t_.Path cp03, sl Ap04 t_.Kids cp04]) s 1000 rfl rfl rfl rfl fun b2 a w hb hK s => ?_)
 refine asg s rfl rfl fun a s => ?_
 apply wN
 apply wQ
 apply wR
 refine qq s rfl (y_boxField (o' := 0) s rfl underlying60 rfl rfl rfl) fun a s => ?_
 refine qq s rfl (y_loadBox1 (kk := 1000) s rfl rfl rfl underlying3 rfl) fun a s => ?_
 apply wN
 apply wp_block
 apply wR
 refine qq s rfl (y_eql s rfl rfl) fun a s => ?_
 refine asg s rfl rfl fun a s => ?_
 apply wN
 refine c_dec s rfl (fun hc3 => ?_) (fun hc3 => ?_)
 ·replace hg := br_t hg hc3
  apply wR
  refine qq s rfl (y_boxField (o' := 1) s rfl underlying60 rfl rfl rfl) fun a s => ?_
  refine qq s rfl (y_loadBox1 (kk := 1000) s rfl rfl rfl underlying9 rfl) fun a s => ?_
  refine asg s rfl rfl fun a s => ?_
  apply wN
  apply wp_ret
  refine p_inR ?_
  refine p_thenR ?_
  obtain rfl := Option.some.inj hg
  refine fin1 (fn := Tryz.f132) s rfl (r_tmp s rfl) ?_
  exact ⟨rfl, (by omega)⟩
 replace hg := br_f hg hc3
 apply wR
 refine qq s rfl (y_eql s rfl rfl) fun a s => ?_
 refine asg s rfl rfl fun a s => ?_
 apply wN
 refine c_dec s rfl (fun hc4 => ?_) (fun hc4 => ?_)
 ·replace hg := br_t hg hc4
  apply wQ
  obtain ⟨hk5, hg⟩ := chk_some hg
  apply wL
  refine qq s rfl (y_boxField (o' := 1) s rfl underlying60 rfl rfl rfl) fun a s => ?_
  refine qq s rfl (y_loadBox1 (kk := 1000) s rfl rfl rfl underlying9 rfl) fun a s => ?_
  refine qq s rfl (y_concat s rfl rfl hk5) fun a s => ?_
  refine asg s rfl rfl fun a s => ?_
  apply wN
  apply wp_ret
  refine p_inR ?_
  refine p_thenR ?_
  obtain rfl := Option.some.inj hg
  refine fin1 (fn := Tryz.f132) s rfl (r_tmp s rfl) ?_
  exact ⟨rfl, (by rw [List.length_append]; omega)⟩
 replace hg := br_f hg hc4
 apply wR
 refine qq s rfl (y_eql s rfl rfl) fun a s => ?_
 refine asg s rfl rfl fun a s => ?_
 apply wN
 refine c_dec s rfl (fun hc6 => ?_) (fun hc6 => ?_)
 ·replace hg := br_t hg hc6
  apply wQ
  obtain ⟨hk7, hg⟩ := chk_some hg
  apply wL
  refine qq s rfl (y_boxField (o' := 1) s rfl underlying60 rfl rfl rfl) fun a s => ?_
  refine qq s rfl (y_loadBox1 (kk := 1000) s rfl rfl rfl underlying9 rfl) fun a s => ?_
  refine qq s rfl (y_concat s rfl rfl hk7) fun a s => ?_
  refine asg s rfl rfl fun a s => ?_
  apply wN
  apply wp_ret
  refine p_inR ?_
  refine p_thenR ?_
  obtain rfl := Option.some.inj hg
  refine fin1 (fn := Tryz.f132) s rfl (r_tmp s rfl) ?_
  exact ⟨rfl, (by rw [List.length_append]; omega)⟩
 replace hg := br_f hg hc6
 apply wR
 refine qq s rfl (y_eql s rfl rfl) fun a s => ?_
 refine asg s rfl rfl fun a s => ?_
 apply wN
 refine c_dec s rfl (fun hc8 => ?_) (fun hc8 => ?_)
 ·replace hg := br_t hg hc8
  apply wQ
  obtain ⟨r9, hr9, hg⟩ := bind_some hg
  apply wL
  refine qq s rfl (y_boxField (o' := 3) s rfl underlying60 rfl rfl rfl) fun a s => ?_
  refine qq s rfl (y_loadBox1 (kk := 1000) s rfl rfl rfl underlying58 rfl) fun a s => ?_
  refine lc s rfl func138 (by kernel_rfl) (c_r19_joined n (r19_written n) c_self _ _ s.lt _ _ _ (s.ft 102 rfl) _ (Nat.le_of_ble_eq_true (by rfl)) _ (Nat.le_of_ble_eq_true (by rfl)) _ hr9) fun v12 a w hK hp s => ?_
  obtain ⟨rfl, lu13a1⟩ := hp
  refine asg s rfl rfl fun a s => ?_
  apply wN
  apply wp_ret
  refine p_inR ?_
  refine p_thenR ?_
  obtain rfl := Option.some.inj hg
  refine fin1 (fn := Tryz.f132) s rfl (r_tmp s rfl) ?_
  exact ⟨rfl, (by omega)⟩
 replace hg := br_f hg hc8
 apply wR
 refine qq s rfl (y_eql s rfl rfl) fun a s => ?_
 refine asg s rfl rfl fun a s => ?_
 apply wN
 refine c_dec s rfl (fun hc14 => ?_) (fun hc14 => ?_)
 ·replace hg := br_t hg hc14
  apply wQ
  obtain ⟨x16, hx16, hg⟩ := bind_some hg
  obtain ⟨hk18, hg⟩ := chk_some hg
  apply wL
  refine qq s rfl (y_boxField (o' := 2) s rfl underlying60 rfl rfl rfl) fun a s => ?_
  refine qq s rfl (y_loadBox1 (kk := 1000) s rfl rfl rfl underlying25 rfl) fun a s => ?_
  obtain ⟨p19, hep19, hpp19⟩ := SlR.elemX (s.ft 101 rfl) hx16
  refine qq s rfl (y_elem (sz := 1) (i := 0) s rfl rfl underlying25 rfl hep19 rfl (lt_of_get hx16)) fun a s => ?_
  obtain ⟨hlq20, hmq20, csq20, hdq20, hcq20⟩ := hpp19
  obtain ⟨rfl, lq201⟩ := hdq20
  refine qq s rfl (y_ldp1 s rfl hlq20 hmq20 (hcq20 0 _ rfl) underlying9 rfl) fun a s => ?_
  refine qq s rfl (y_concat s rfl rfl hk18) fun a s => ?_
  refine asg s rfl rfl fun a s => ?_
  apply wN
  apply wQ
  apply wR
  refine asg s rfl rfl fun a s => ?_
  apply wN
  obtain ⟨k21, hg, hk21⟩ := jn_some hg
  refine c_post (fun a w => ∃ (t_22 : (List UInt8)), k21 t_22 = some r ∧ ((t_22).length ≤ 9223372036854775807) ∧ St (cx f132 M w0) [(1, vP b2 0), (3, vT t_22)] [(1000, Ob.box b2 [vI t_.Op, vT t_.Name, sl Ap03 t_.Path cp03, sl Ap04 t_.Kids cp04] 60)] [(101, sF Rep.str Ap03 cp03 t_.Path), (102, sF RDesc Ap04 cp04 t_.Kids)] a w) ?_ ?_
  ·apply wp_block
   refine c_loop (σ := Nat) (fun m1 a w => ∃ (t_23 : (List UInt8)) (t_24 : Nat), r19_written_L0 n t_ k21 m1 t_23 t_24 = some r ∧ ((t_23).length ≤ 9223372036854775807) ∧ St (cx f132 M w0) [(1, vP b2 0), (3, vT t_23), (4, vI (((t_24 : Nat) : Int)))] [(1000, Ob.box b2 [vI t_.Op, vT t_.Name, sl Ap03 t_.Path cp03, sl Ap04 t_.Kids cp04] 60)] [(101, sF Rep.str Ap03 cp03 t_.Path), (102, sF RDesc Ap04 cp04 t_.Kids)] a w) (fun m1 => m1) n ⟨([91] ++ x16), (1), hg, (by rw [List.length_append]; omega), (s.sb rfl rfl rfl)⟩ ?_
   clear s a; rintro m1 a w ⟨t_23, t_24, hg, lt_23, s⟩
   rcases m1 with _ | m1
   ·rw [r19_written_L0] at hg; cases hg
   rw [r19_written_L0] at hg
   apply wQ
   apply wR
   refine mv s rfl rfl fun a s => ?_
   refine qq s rfl (y_boxField (o' := 2) s rfl underlying60 rfl rfl rfl) fun a s => ?_
   refine qq s rfl (y_loadBox1 (kk := 1000) s rfl rfl rfl underlying25 rfl) fun a s => ?_
   refine qq s rfl (y_lenSlice s rfl underlying25) fun a s => ?_
   refine qq s rfl (y_lssN (i := t_24) (j := ((t_.Path).length)) s rfl rfl) fun a s => ?_
   apply wN
   refine c_dec s rfl (fun hc25 => ?_) (fun hc25 => ?_)
   ·replace hg := br_t hg hc25
    have hmx26 := SlR.mx (s.ft 101 rfl)
    apply wp_skip
    apply pN
    apply wQ
    apply wp_block
    obtain ⟨hk27, hg⟩ := chk_some hg
    obtain ⟨x29, hx29, hg⟩ := bind_some hg
    obtain ⟨hk31, hg⟩ := chk_some hg
    apply wL
    refine mv s rfl rfl fun a s => ?_
    refine qq s rfl (y_concat s rfl rfl hk27) fun a s => ?_
    refine qq s rfl (y_boxField (o' := 2) s rfl underlying60 rfl rfl rfl) fun a s => ?_
    refine qq s rfl (y_loadBox1 (kk := 1000) s rfl rfl rfl underlying25 rfl) fun a s => ?_
    refine mv s rfl rfl fun a s => ?_
    obtain ⟨p32, hep32, hpp32⟩ := SlR.elemX (s.ft 101 rfl) hx29
    refine qq s rfl (y_elem (sz := 1) (i := t_24) s rfl rfl underlying25 rfl hep32 rfl (lt_of_get hx29)) fun a s => ?_
    obtain ⟨hlq33, hmq33, csq33, hdq33, hcq33⟩ := hpp32
    obtain ⟨rfl, lq331⟩ := hdq33
    refine qq s rfl (y_ldp1 s rfl hlq33 hmq33 (hcq33 0 _ rfl) underlying9 rfl) fun a s => ?_
    refine qq s rfl (y_concat s rfl rfl hk31) fun a s => ?_
    refine asg s rfl rfl fun a s => ?_
    apply wO
    refine p_inN ?_
    apply pN
    apply wL
    refine mv s rfl rfl fun a s => ?_
    refine qq s rfl (y_addN (i := t_24) (j := 1) s rfl rfl (in64.2 (by omega))) fun a s => ?_
    refine asg s rfl rfl fun a s => ?_
    apply wN
    exact ⟨m1, Nat.lt_succ_self _, ⟨((t_23 ++ [46]) ++ x29), (t_24 + 1), hg, (by rw [List.length_append]; omega), (s.sb rfl rfl rfl)⟩⟩
   replace hg := br_f hg hc25
   apply wp_exit
   refine p_then ?_
   refine p_then ?_
   refine p_in ?_
   apply pN
   exact ⟨(t_23), hg, (by omega), (s.sb rfl rfl rfl)⟩
  clear s a; rintro a w ⟨t_22, hg, lt_22, s⟩
  subst hk21
  apply wQ
  obtain ⟨hk34, hg⟩ := chk_some hg
  obtain ⟨x36, hx36, hg⟩ := bind_some hg
  obtain ⟨r38, hr38, hg⟩ := bind_some hg
  obtain ⟨hk41, hg⟩ := chk_some hg
  obtain ⟨hk42, hg⟩ := chk_some hg
  apply wL
  refine mv s rfl rfl fun a s => ?_
  refine qq s rfl (y_concat s rfl rfl hk34) fun a s => ?_
  refine qq s rfl (y_boxField (o' := 3) s rfl underlying60 rfl rfl rfl) fun a s => ?_
  refine qq s rfl (y_loadBox1 (kk := 1000) s rfl rfl rfl underlying58 rfl) fun a s => ?_
  obtain ⟨p43, hep43, hpp43⟩ := SlR.elemX (s.ft 102 rfl) hx36
  refine qq s rfl (y_elem (sz := 4) (i := 0) s rfl rfl underlying58 rfl hep43 rfl (lt_of_get hx36)) fun a s => ?_
  obtain ⟨hlq44, hmq44, csq44, hdq44, hcq44⟩ := hpp43
  obtain ⟨Aq443, cq443, Aq444, cq444, rfl, lq442, hq443, hq444⟩ := RDesc.open hdq44
  replace s := s.ns 105 hq443
  replace s := s.ns 106 hq444
  refine qq s rfl (y_ldp s rfl hlq44 hmq44 (by simpa using hcq44) underlying60 rfl rfl) fun a s => ?_
  refine lc s rfl func132 (by kernel_rfl) (c_self _ _ s.lt _ _ _ _ _ (by omega) (s.ft 105 rfl) (s.ft 106 rfl) _ hr38) fun v45 a w hK hp s => ?_
  obtain ⟨rfl, lu46a1⟩ := hp
  refine qq s rfl (y_concat s rfl rfl hk41) fun a s => ?_
  refine qq s rfl (y_concat s rfl rfl hk42) fun a s => ?_
  refine asg s rfl rfl fun a s => ?_
  apply wN
  apply wp_ret
  refine p_inR ?_
  refine p_thenR ?_
  obtain rfl := Option.some.inj hg
  refine fin1 (fn := Tryz.f132) s rfl (r_tmp s rfl) ?_
  exact ⟨rfl, (by rw [List.length_append]; omega)⟩
 replace hg := br_f hg hc14
 apply wR
 refine qq s rfl (y_eql s rfl rfl) fun a s => ?_
 refine asg s rfl rfl fun a s => ?_
 apply wN
 refine c_dec s rfl (fun hc47 => ?_) (fun hc47 => ?_)
 ·replace hg := br_t hg hc47
  apply wQ
  obtain ⟨r48, hr48, hg⟩ := bind_some hg
  obtain ⟨hk51, hg⟩ := chk_some hg
  obtain ⟨hk52, hg⟩ := chk_some hg
  apply wL
  refine qq s rfl (y_boxField (o' := 3) s rfl underlying60 rfl rfl rfl) fun a s => ?_
  refine qq s rfl (y_loadBox1 (kk := 1000) s rfl rfl rfl underlying58 rfl) fun a s => ?_
  refine lc s rfl func138 (by kernel_rfl) (c_r19_joined n (r19_written n) c_self _ _ s.lt _ _ _ (s.ft 102 rfl) _ (Nat.le_of_ble_eq_true (by rfl)) _ (Nat.le_of_ble_eq_true (by rfl)) _ hr48) fun v53 a w hK hp s => ?_
  obtain ⟨rfl, lu54a1⟩ := hp
  refine qq s rfl (y_concat s rfl rfl hk51) fun a s => ?_
  refine qq s rfl (y_concat s rfl rfl hk52) fun a s => ?_
  refine asg s rfl rfl fun a s => ?_
  apply wN
  apply wp_ret
  refine p_inR ?_
  refine p_thenR ?_
  obtain rfl := Option.some.inj hg
  refine fin1 (fn := Tryz.f132) s rfl (r_tmp s rfl) ?_
  exact ⟨rfl, (by rw [List.length_append]; omega)⟩
 replace hg := br_f hg hc47
 apply wR
 refine qq s rfl (y_eql s rfl rfl) fun a s => ?_
 refine asg s rfl rfl fun a s => ?_
 apply wN
 refine c_dec s rfl (fun hc55 => ?_) (fun hc55 => ?_)
 ·replace hg := br_t hg hc55
  apply wQ
  obtain ⟨r56, hr56, hg⟩ := bind_some hg
  obtain ⟨hk59, hg⟩ := chk_some hg
  obtain ⟨hk60, hg⟩ := chk_some hg
  apply wL
  refine qq s rfl (y_boxField (o' := 3) s rfl underlying60 rfl rfl rfl) fun a s => ?_
  refine qq s rfl (y_loadBox1 (kk := 1000) s rfl rfl rfl underlying58 rfl) fun a s => ?_
  refine lc s rfl func138 (by kernel_rfl) (c_r19_joined n (r19_written n) c_self _ _ s.lt _ _ _ (s.ft 102 rfl) _ (Nat.le_of_ble_eq_true (by rfl)) _ (Nat.le_of_ble_eq_true (by rfl)) _ hr56) fun v61 a w hK hp s => ?_
  obtain ⟨rfl, lu62a1⟩ := hp
  refine qq s rfl (y_concat s rfl rfl hk59) fun a s => ?_
  refine qq s rfl (y_concat s rfl rfl hk60) fun a s => ?_
  refine asg s rfl rfl fun a s => ?_
  apply wN
  apply wp_ret
  refine p_inR ?_
  refine p_thenR ?_
  obtain rfl := Option.some.inj hg
  refine fin1 (fn := Tryz.f132) s rfl (r_tmp s rfl) ?_
  exact ⟨rfl, (by rw [List.length_append]; omega)⟩
 replace hg := br_f hg hc55
 apply wp_skip
 refine p_inN ?_
 apply pN
 apply wQ
 apply wR
 refine qq s rfl (y_boxField (o' := 3) s rfl underlying60 rfl rfl rfl) fun a s => ?_
 refine qq s rfl (y_loadBox1 (kk := 1000) s rfl rfl rfl underlying58 rfl) fun a s => ?_
 refine qq s rfl (y_lenSlice s rfl underlying58) fun a s => ?_
 refine qq s rfl (y_eqlN (i := ((t_.Kids).length)) (j := 0) s rfl rfl) fun a s => ?_
 apply wN
 refine c_dec s rfl (fun hc63 => ?_) (fun hc63 => ?_)
 ·replace hg := br_t hg hc63
  apply wR
  refine asg s rfl rfl fun a s => ?_
  apply wN
  apply wp_ret
  refine p_thenR ?_
  obtain rfl := Option.some.inj hg
  refine fin1 (fn := Tryz.f132) s rfl (r_tmp s rfl) ?_
  exact ⟨rfl, (Nat.le_of_ble_eq_true (by rfl))⟩
 replace hg := br_f hg hc63
 apply wp_skip
 apply pN
 apply wQ
 obtain ⟨r64, hr64, hg⟩ := bind_some hg
 obtain ⟨hk67, hg⟩ := chk_some hg
 obtain ⟨hk68, hg⟩ := chk_some hg
 apply wL
 refine qq s rfl (y_boxField (o' := 3) s rfl underlying60 rfl rfl rfl) fun a s => ?_
 refine qq s rfl (y_loadBox1 (kk := 1000) s rfl rfl rfl underlying58 rfl) fun a s => ?_
 refine lc s rfl func138 (by kernel_rfl) (c_r19_joined n (r19_written n) c_self _ _ s.lt _ _ _ (s.ft 102 rfl) _ (Nat.le_of_ble_eq_true (by rfl)) _ (Nat.le_of_ble_eq_true (by rfl)) _ hr64) fun v69 a w hK hp s => ?_
 obtain ⟨rfl, lu70a1⟩ := hp
 refine qq s rfl (y_concat s rfl rfl hk67) fun a s => ?_
 refine qq s rfl (y_concat s rfl rfl hk68) fun a s => ?_
 refine asg s rfl rfl fun a s => ?_
 apply wN
 apply wp_ret
 obtain rfl := Option.some.inj hg
 refine fin1 (fn := Tryz.f132) s rfl (r_tmp s rfl) ?_
 exact ⟨rfl, (by rw [List.length_append]; omega)⟩
set_option maxHeartbeats 1000000 in
theorem c_r19_Print (n : Nat) (M : Bs) (w0 : World) (hM : ∀ b, M b → b < w0.heap.size) (d_ : Desc) (Ap03 : Option Addr) (cp03 : Nat) (Ap04 : Option Addr) (cp04 : Nat) (lp02 : (d_.Name).length ≤ 9223372036854775807) (hp03 : SlR Rep.str M w0 Ap03 (d_.Path).length cp03 (d_.Path)) (hp04 : SlR RDesc M w0 Ap04 (d_.Kids).length cp04 (d_.Kids)) (r : ((List UInt8) × Int)) (hg : r19_Print n d_ = some r) :
    Calls Tryz.prog 116 [.agg #[.int .i64 (d_.Op), .string (bs (d_.Name)), .slice (Ap03) ((d_.Path).length) (cp03), .slice (Ap04) ((d_.Kids).length) (cp04)]].toArray w0 (Ret noB w0 fun v w => v = .tuple #[.string (bs (r.1)), .int .i64 (r.2)] ∧ ((r.1).length ≤ 9223372036854775807)) := by
 unfold r19_Print at hg
 refine enter M noB func116 rfl rfl hM ?_
 intro a s
 replace s := s.es 101 hp03
 replace s := s.es 102 hp04
 apply wR
 refine l_seq rfl (l_box (zs := [vI d_.Op, vT d_.Name, sl Ap03 d_.Path cp03, sl Ap04 d_.Kids cp04]) s 1000 rfl rfl rfl rfl fun b2 a w hb hK s => ?_)
 refine asg s rfl rfl fun a s => ?_
 refine asg s rfl rfl fun a s => ?_
 apply wN
 apply wQ
 obtain ⟨r3, hr3, hg⟩ := bind_some hg
 apply wL
 refine qq s rfl (y_loadAll (kk := 1000) s rfl rfl underlying60 rfl rfl) fun a s => ?_
 refine lc s rfl func129 (by kernel_rfl) (c_r19_Check n _ _ s.lt _ _ _ _ _ (by omega) (s.ft 101 rfl) (s.ft 102 rfl) _ hr3) fun v6 a w hK hp s => ?_
 obtain rfl := hp
 refine asg s rfl rfl fun a s => ?_
 apply wN
 apply wQ
 apply wR
 refine mv s rfl rfl fun a s => ?_
 refine qq s rfl (y_neq s rfl rfl) fun a s => ?_
 apply wN
 refine c_dec s rfl (fun hc8 => ?_) (fun hc8 => ?_)
 ·replace hg := br_t hg hc8
  apply wR
  refine mv s rfl rfl fun a s => ?_
  refine asg s rfl rfl fun a s => ?_
  refine asg s rfl rfl fun a s => ?_
  apply wN
  apply wp_ret
  refine p_thenR ?_
  obtain rfl := Option.some.inj hg
  refine fin2 (fn := Tryz.f116) s rfl (r_tmp s rfl) (r_tmp s rfl) ?_
  exact ⟨rfl, (Nat.le_of_ble_eq_true (by rfl))⟩
 replace hg := br_f hg hc8
 apply wp_skip
 apply pN
 apply wQ
 obtain ⟨r9, hr9, hg⟩ := bind_some hg
 apply wL
 refine qq s rfl (y_loadAll (kk := 1000) s rfl rfl underlying60 rfl rfl) fun a s => ?_
 refine lc s rfl func132 (by kernel_rfl) (c_r19_written n _ _ s.lt _ _ _ _ _ (by omega) (s.ft 101 rfl) (s.ft 102 rfl) _ hr9) fun v12 a w hK hp s => ?_
 obtain ⟨rfl, lu13a1⟩ := hp
 refine asg s rfl rfl fun a s => ?_
 apply wN
 apply wQ
 apply wR
 refine mv s rfl rfl fun a s => ?_
 refine qq s rfl (y_lenStrN s rfl underlying9) fun a s => ?_
 refine qq s rfl (y_gtrN (i := ((r9).length)) (j := 65536) s rfl rfl) fun a s => ?_
 apply wN
 refine c_dec s rfl (fun hc14 => ?_) (fun hc14 => ?_)
 ·replace hg := br_t hg hc14
  have hmx15 : (r9).length ≤ 9223372036854775807 := (by omega)
  apply wR
  refine asg s rfl rfl fun a s => ?_
  refine asg s rfl rfl fun a s => ?_
  apply wN
  apply wp_ret
  refine p_thenR ?_
  obtain rfl := Option.some.inj hg
  refine fin2 (fn := Tryz.f116) s rfl (r_tmp s rfl) (r_tmp s rfl) ?_
  exact ⟨rfl, (Nat.le_of_ble_eq_true (by rfl))⟩
 replace hg := br_f hg hc14
 apply wp_skip
 apply pN
 apply wR
 refine mv s rfl rfl fun a s => ?_
 refine asg s rfl rfl fun a s => ?_
 refine asg s rfl rfl fun a s => ?_
 apply wN
 apply wp_ret
 obtain rfl := Option.some.inj hg
 refine fin2 (fn := Tryz.f116) s rfl (r_tmp s rfl) (r_tmp s rfl) ?_
 exact ⟨rfl, (by omega)⟩
set_option maxHeartbeats 1000000 in
theorem c_r21_defined (n : Nat) (M : Bs) (w0 : World) (hM : ∀ b, M b → b < w0.heap.size) (x_ : Def) (Ap04 : Option Addr) (cp04 : Nat) (Ap05 : Option Addr) (cp05 : Nat) (Ap06 : Option Addr) (cp06 : Nat) (lp01 : (x_.Name).length ≤ 9223372036854775807) (lp03 : (x_.Strict.Name).length ≤ 9223372036854775807) (hp04 : SlR Rep.str M w0 Ap04 (x_.Strict.Path).length cp04 (x_.Strict.Path)) (hp05 : SlR RDesc M w0 Ap05 (x_.Strict.Kids).length cp05 (x_.Strict.Kids)) (hp06 : SlR RDesc M w0 Ap06 (x_.Defaults).length cp06 (x_.Defaults)) (r : (List UInt8)) (hg : r21_defined n x_ = some r) :
    Calls Tryz.prog 89 [.agg #[.string (bs (x_.Name)), .int .i64 (x_.Strict.Op), .string (bs (x_.Strict.Name)), .slice (Ap04) ((x_.Strict.Path).length) (cp04), .slice (Ap05) ((x_.Strict.Kids).length) (cp05), .slice (Ap06) ((x_.Defaults).length) (cp06)]].toArray w0 (Ret noB w0 fun v w => v = .string (bs (r)) ∧ ((r).length ≤ 9223372036854775807)) := by
 unfold r21_defined at hg
 refine enter M noB func89 rfl rfl hM ?_
 intro a s
 replace s := s.es 101 hp04
 replace s := s.es 102 hp05
 replace s := s.es 103 hp06
 apply wR
 refine l_seq rfl (l_box (zs := [vT x_.Name, vI x_.Strict.Op, vT x_.Strict.Name, sl Ap04 x_.Strict.Path cp04, sl Ap05 x_.Strict.Kids cp05, sl Ap06 x_.Defaults cp06]) s 1000 rfl rfl rfl rfl fun b2 a w hb hK s => ?_)
 refine asg s rfl rfl fun a s => ?_
 apply wN
 apply wQ
 obtain ⟨r3, hr3, hg⟩ := bind_some hg
 apply wL
 refine qq s rfl (y_boxField (o' := 1) s rfl underlying62 rfl rfl rfl) fun a s => ?_
 refine qq s rfl (y_loadBox (kk := 1000) (n := 4) (vs := [vI x_.Strict.Op, vT x_.Strict.Name, sl Ap04 x_.Strict.Path cp04, sl Ap05 x_.Strict.Kids cp05]) s rfl rfl underlying60 rfl rfl rfl rfl) fun a s => ?_
 refine lc s rfl func116 (by kernel_rfl) (c_r19_Print n _ _ s.lt _ _ _ _ _ (by omega) (s.ft 101 rfl) (s.ft 102 rfl) _ hr3) fun v6 a w hK hp s => ?_
 obtain ⟨rfl, lu7a1⟩ := hp
 refine mv s rfl rfl fun a s => ?_
 refine qq s rfl (y_extract s rfl rfl) fun a s => ?_
 refine qq s rfl (y_extract s rfl rfl) fun a s => ?_
 refine asg s rfl rfl fun a s => ?_
 refine asg s rfl rfl fun a s => ?_
 apply wN
 apply wQ
 obtain ⟨hk8, hg⟩ := chk_some hg
 apply wL
 refine mv s rfl rfl fun a s => ?_
 refine qq s rfl (y_concat s rfl rfl hk8) fun a s => ?_
 refine asg s rfl rfl fun a s => ?_
 apply wN
 apply wQ
 apply wR
 refine asg s rfl rfl fun a s => ?_
 apply wN
 apply wp_block
 refine c_loop (σ := Nat) (fun m1 a w => ∃ (s_9 : (List UInt8)) (i_10 : Nat), r21_defined_L0 n x_ m1 s_9 i_10 = some r ∧ ((s_9).length ≤ 9223372036854775807) ∧ St (cx f89 M w0) [(1, vP b2 0), (3, vT s_9), (5, vI (((i_10 : Nat) : Int)))] [(1000, Ob.box b2 [vT x_.Name, vI x_.Strict.Op, vT x_.Strict.Name, sl Ap04 x_.Strict.Path cp04, sl Ap05 x_.Strict.Kids cp05, sl Ap06 x_.Defaults cp06] 62)] [(101, sF Rep.str Ap04 cp04 x_.Strict.Path), (102, sF RDesc Ap05 cp05 x_.Strict.Kids), (103, sF RDesc Ap06 cp06 x_.Defaults)] a w) (fun m1 => m1) n ⟨([32, 61, 32] ++ r3.1), (0), hg, (by rw [List.length_append]; omega), (s.sb rfl rfl rfl)⟩ ?_
 clear s a; rintro m1 a w ⟨s_9, i_10, hg, ls_9, s⟩
 rcases m1 with _ | m1
 ·rw [r21_defined_L0] at hg; cases hg
 rw [r21_defined_L0] at hg
 apply wQ
 apply wR
 refine mv s rfl rfl fun a s => ?_
 refine qq s rfl (y_boxField (o' := 5) s rfl underlying62 rfl rfl rfl) fun a s => ?_
 refine qq s rfl (y_loadBox1 (kk := 1000) s rfl rfl rfl underlying58 rfl) fun a s => ?_
 refine qq s rfl (y_lenSlice s rfl underlying58) fun a s => ?_
 refine qq s rfl (y_lssN (i := i_10) (j := ((x_.Defaults).length)) s rfl rfl) fun a s => ?_
 apply wN
 refine c_dec s rfl (fun hc11 => ?_) (fun hc11 => ?_)
 ·replace hg := br_t hg hc11
  have hmx12 := SlR.mx (s.ft 103 rfl)
  apply wp_skip
  apply pN
  apply wQ
  apply wp_block
  apply wQ
  obtain ⟨x14, hx14, hg⟩ := bind_some hg
  obtain ⟨r16, hr16, hg⟩ := bind_some hg
  apply wL
  refine qq s rfl (y_boxField (o' := 5) s rfl underlying62 rfl rfl rfl) fun a s => ?_
  refine qq s rfl (y_loadBox1 (kk := 1000) s rfl rfl rfl underlying58 rfl) fun a s => ?_
  refine mv s rfl rfl fun a s => ?_
  obtain ⟨p19, hep19, hpp19⟩ := SlR.elemX (s.ft 103 rfl) hx14
  refine qq s rfl (y_elem (sz := 4) (i := i_10) s rfl rfl underlying58 rfl hep19 rfl (lt_of_get hx14)) fun a s => ?_
  obtain ⟨hlq20, hmq20, csq20, hdq20, hcq20⟩ := hpp19
  obtain ⟨Aq203, cq203, Aq204, cq204, rfl, lq202, hq203, hq204⟩ := RDesc.open hdq20
  replace s := s.ns 106 hq203
  replace s := s.ns 107 hq204
  refine qq s rfl (y_ldp s rfl hlq20 hmq20 (by simpa using hcq20) underlying60 rfl rfl) fun a s => ?_
  refine lc s rfl func116 (by kernel_rfl) (c_r19_Print n _ _ s.lt _ _ _ _ _ (by omega) (s.ft 106 rfl) (s.ft 107 rfl) _ hr16) fun v21 a w hK hp s => ?_
  obtain ⟨rfl, lu22a1⟩ := hp
  refine mv s rfl rfl fun a s => ?_
  refine qq s rfl (y_extract s rfl rfl) fun a s => ?_
  refine qq s rfl (y_extract s rfl rfl) fun a s => ?_
  refine asg s rfl rfl fun a s => ?_
  refine asg s rfl rfl fun a s => ?_
  apply wN
  obtain ⟨hk23, hg⟩ := chk_some hg
  obtain ⟨hk24, hg⟩ := chk_some hg
  apply wL
  refine mv s rfl rfl fun a s => ?_
  refine qq s rfl (y_concat s rfl rfl hk23) fun a s => ?_
  refine mv s rfl rfl fun a s => ?_
  refine qq s rfl (y_concat s rfl rfl hk24) fun a s => ?_
  refine asg s rfl rfl fun a s => ?_
  apply wO
  refine p_inN ?_
  apply pN
  apply wL
  refine mv s rfl rfl fun a s => ?_
  refine qq s rfl (y_addN (i := i_10) (j := 1) s rfl rfl (in64.2 (by omega))) fun a s => ?_
  refine asg s rfl rfl fun a s => ?_
  apply wN
  exact ⟨m1, Nat.lt_succ_self _, ⟨((s_9 ++ [32, 47, 32]) ++ r16.1), (i_10 + 1), hg, (by rw [List.length_append]; omega), (s.sb rfl rfl rfl)⟩⟩
 replace hg := br_f hg hc11
 apply wp_exit
 refine p_then ?_
 refine p_then ?_
 refine p_in ?_
 apply pN
 apply wQ
 obtain ⟨hk25, hg⟩ := chk_some hg
 apply wL
 refine mv s rfl rfl fun a s => ?_
 refine qq s rfl (y_concat s rfl rfl hk25) fun a s => ?_
 refine asg s rfl rfl fun a s => ?_
 apply wN
 apply wp_ret
 obtain rfl := Option.some.inj hg
 refine fin1 (fn := Tryz.f89) s rfl (r_tmp s rfl) ?_
 exact ⟨rfl, (by rw [List.length_append]; omega)⟩
set_option maxHeartbeats 1000000 in
theorem c_r21_defs (n : Nat) (M : Bs) (w0 : World) (hM : ∀ b, M b → b < w0.heap.size) (what_ : (List UInt8)) (lp01 : (what_).length ≤ 9223372036854775807) (l_ : (List Def)) (Ap11 : Option Addr) (cp11 : Nat) (hp11 : SlR RDef M w0 Ap11 (l_).length cp11 (l_)) (r : (List UInt8)) (hg : r21_defs n what_ l_ = some r) :
    Calls Tryz.prog 87 [.string (bs (what_)), .slice (Ap11) ((l_).length) (cp11)].toArray w0 (Ret noB w0 fun v w => v = .string (bs (r)) ∧ ((r).length ≤ 9223372036854775807)) := by
 unfold r21_defs at hg
 refine enter M noB func87 rfl rfl hM ?_
 intro a s
 replace s := s.es 101 hp11
 apply wR
 refine asg s rfl rfl fun a s => ?_
 apply wN
 apply wR
 refine asg s rfl rfl fun a s => ?_
 apply wN
 apply wQ
 apply wR
 refine asg s rfl rfl fun a s => ?_
 apply wN
 apply wp_block
 refine c_loop (σ := Nat) (fun m1 a w => ∃ (s_1 : (List UInt8)) (i_2 : Nat), r21_defs_L0 n what_ l_ m1 s_1 i_2 = some r ∧ ((s_1).length ≤ 9223372036854775807) ∧ St (cx f87 M w0) [(0, vT what_), (1, sl Ap11 l_ cp11), (5, vT s_1), (6, vI (((i_2 : Nat) : Int)))] [] [(101, sF RDef Ap11 cp11 l_)] a w) (fun m1 => m1) n ⟨([]), (0), hg, (Nat.le_of_ble_eq_true (by rfl)), (s.sb rfl rfl rfl)⟩ ?_
 clear s a; rintro m1 a w ⟨s_1, i_2, hg, ls_1, s⟩
 rcases m1 with _ | m1
 ·rw [r21_defs_L0] at hg; cases hg
 rw [r21_defs_L0] at hg
 apply wQ
 apply wR
 refine mv s rfl rfl fun a s => ?_
 refine mv s rfl rfl fun a s => ?_
 refine qq s rfl (y_lenSlice s rfl underlying33) fun a s => ?_
 refine qq s rfl (y_lssN (i := i_2) (j := ((l_).length)) s rfl rfl) fun a s => ?_
 apply wN
 refine c_dec s rfl (fun hc3 => ?_) (fun hc3 => ?_)
 ·replace hg := br_t hg hc3
  have hmx4 := SlR.mx (s.ft 101 rfl)
  apply wp_skip
  apply pN
  apply wQ
  apply wp_block
  obtain ⟨hk5, hg⟩ := chk_some hg
  obtain ⟨x7, hx7, hg⟩ := bind_some hg
  obtain ⟨hk9, hg⟩ := chk_some hg
  obtain ⟨r12, hr12, hg⟩ := bind_some hg
  obtain ⟨hk15, hg⟩ := chk_some hg
  refine d_plan s [] [(0, some 0), (1, some 0), (2, some 0), (3, some 0), (4, some 0), (5, some 0), (6, some 0), (7, some 0), (8, some 0), (9, some 0), (10, some 0), (11, some 0), (12, some 0), (13, none), (14, none), (15, none)] rfl (by kernel_rfl) (by kernel_rfl) rfl ?_; clear s; intro wr hZ s; have hR := s.wd
  refine qt s hR rfl (y_move s rfl) fun a s => ?_
  refine qt s hR rfl (y_move s rfl) fun a s => ?_
  refine qt s hR rfl (y_concat s rfl rfl hk5) fun a s => ?_
  refine qt s hR rfl (y_move s rfl) fun a s => ?_
  refine qt s hR rfl (y_move s rfl) fun a s => ?_
  obtain ⟨p16, hep16, hpp16⟩ := SlR.elemX (s.ft 101 rfl) hx7
  refine qt s hR rfl (y_elem (sz := 6) (i := i_2) s rfl rfl underlying33 rfl hep16 rfl (lt_of_get hx7)) fun a s => ?_
  refine qt s hR rfl (y_ptrField (o' := 0) s rfl underlying62 rfl rfl rfl) fun a s => ?_
  obtain ⟨hlq17, hmq17, csq17, hdq17, hcq17⟩ := hpp16
  obtain ⟨Aq174, cq174, Aq175, cq175, Aq176, cq176, rfl, lq171, lq173, hq174, hq175, hq176⟩ := RDef.open hdq17
  replace s := s.ns 108 hq174
  replace s := s.ns 109 hq175
  replace s := s.ns 110 hq176
  refine qt s hR rfl (y_ldp1 s rfl hlq17 hmq17 (hcq17 0 _ rfl) underlying9 rfl) fun a s => ?_
  refine qt s hR rfl (y_concat s rfl rfl hk9) fun a s => ?_
  refine qt s hR rfl (y_move s rfl) fun a s => ?_
  refine qt s hR rfl (y_move s rfl) fun a s => ?_
  obtain ⟨p18, hep18, hpp18⟩ := SlR.elemX (s.ft 101 rfl) hx7
  refine qt s hR rfl (y_elem (sz := 6) (i := i_2) s rfl rfl underlying33 rfl hep18 rfl (lt_of_get hx7)) fun a s => ?_
  obtain ⟨hlq19, hmq19, csq19, hdq19, hcq19⟩ := hpp18
  obtain ⟨Aq194, cq194, Aq195, cq195, Aq196, cq196, rfl, lq191, lq193, hq194, hq195, hq196⟩ := RDef.open hdq19
  replace s := s.ns 111 hq194
  replace s := s.ns 112 hq195
  replace s := s.ns 113 hq196
  refine qt s hR rfl (y_ldp s rfl hlq19 hmq19 (by simpa using hcq19) underlying62 rfl rfl) fun a s => ?_
  refine l_take s rfl rfl (l_call (cap := []) s rfl func89 rfl (by kernel_rfl) rfl rfl (c_r21_defined n _ _ s.lt _ _ _ _ _ _ _ (by omega) (by omega) (s.ft 111 rfl) (s.ft 112 rfl) (s.ft 113 rfl) _ hr12) fun v20 a w hK hp s => ?_)
  replace hZ := Nat.le_trans hZ hK.size; refine ⟨fun g _ h => h.grow hK, ?_⟩; clear hK
  obtain ⟨rfl, lu21a1⟩ := hp
  refine l_take s rfl rfl (l_quiet s rfl rfl (y_concat s rfl rfl hk15) fun a s => ?_); refine ⟨fun g _ h => h, ?_⟩
  refine l_take s rfl rfl (l_quiet s rfl rfl (y_assign s rfl) fun a s => ?_); refine ⟨fun g _ h => h, ?_⟩
  clear hR hZ
  refine p_inN ?_
  apply pN
  apply wL
  refine mv s rfl rfl fun a s => ?_
  refine qq s rfl (y_addN (i := i_2) (j := 1) s rfl rfl (in64.2 (by omega))) fun a s => ?_
  refine asg s rfl rfl fun a s => ?_
  apply wN
  exact ⟨m1, Nat.lt_succ_self _, ⟨(((s_1 ++ what_) ++ x7.Name) ++ r12), (i_2 + 1), hg, (by rw [List.length_append]; omega), (s.sb rfl rfl rfl)⟩⟩
 replace hg := br_f hg hc3
 apply wp_exit
 refine p_then ?_
 refine p_then ?_
 refine p_in ?_
 apply pN
 apply wR
 refine mv s rfl rfl fun a s => ?_
 refine asg s rfl rfl fun a s => ?_
 apply wN
 apply wp_ret
 obtain rfl := Option.some.inj hg
 refine fin1 (fn := Tryz.f87) s rfl (r_tmp s rfl) ?_
 exact ⟨rfl, (by omega)⟩
set_option maxHeartbeats 1000000 in
theorem c_r21_affixed (n : Nat) (M : Bs) (w0 : World) (hM : ∀ b, M b → b < w0.heap.size) (a_ : Affix) (Ap02 : Option Addr) (cp02 : Nat) (hp02 : SlR RChange M w0 Ap02 (a_.Pairs).length cp02 (a_.Pairs)) (r : (List UInt8)) (hg : r21_affixed n a_ = some r) :
    Calls Tryz.prog 90 [.agg #[.int .i64 (a_.Kind), .slice (Ap02) ((a_.Pairs).length) (cp02)]].toArray w0 (Ret noB w0 fun v w => v = .string (bs (r)) ∧ ((r).length ≤ 9223372036854775807)) := by
 unfold r21_affixed at hg
 refine enter M noB func90 rfl rfl hM ?_
 intro a s
 replace s := s.es 101 hp02
 apply wR
 refine l_seq rfl (l_box (zs := [vI a_.Kind, sl Ap02 a_.Pairs cp02]) s 1000 rfl rfl rfl rfl fun b2 a w hb hK s => ?_)
 refine asg s rfl rfl fun a s => ?_
 apply wN
 apply wR
 refine asg s rfl rfl fun a s => ?_
 apply wN
 apply wQ
 apply wR
 refine qq s rfl (y_boxField (o' := 0) s rfl underlying92 rfl rfl rfl) fun a s => ?_
 refine qq s rfl (y_loadBox1 (kk := 1000) s rfl rfl rfl underlying3 rfl) fun a s => ?_
 apply wN
 obtain ⟨k3, hg, hk3⟩ := jn_some hg
 refine c_post (fun a w => ∃ (s_4 : (List UInt8)), k3 s_4 = some r ∧ ((s_4).length ≤ 9223372036854775807) ∧ St (cx f90 M w0) [(1, vP b2 0), (3, vT s_4)] [(1000, Ob.box b2 [vI a_.Kind, sl Ap02 a_.Pairs cp02] 92)] [(101, sF RChange Ap02 cp02 a_.Pairs)] a w) ?_ ?_
 ·apply wp_block
  apply wR
  refine qq s rfl (y_eql s rfl rfl) fun a s => ?_
  refine asg s rfl rfl fun a s => ?_
  apply wN
  refine c_dec s rfl (fun hc5 => ?_) (fun hc5 => ?_)
  ·replace hg := br_t hg hc5
   apply wR
   refine asg s rfl rfl fun a s => ?_
   apply wN
   apply wp_ret
   refine p_inR ?_
   refine p_thenR ?_
   obtain rfl := Option.some.inj hg
   refine fin1 (fn := Tryz.f90) s rfl (r_tmp s rfl) ?_
   exact ⟨rfl, (Nat.le_of_ble_eq_true (by rfl))⟩
  replace hg := br_f hg hc5
  apply wR
  refine qq s rfl (y_eql s rfl rfl) fun a s => ?_
  refine asg s rfl rfl fun a s => ?_
  apply wN
  refine c_dec s rfl (fun hc6 => ?_) (fun hc6 => ?_)
  ·replace hg := br_t hg hc6
   apply wL
   refine asg s rfl rfl fun a s => ?_
   apply wO
   refine p_inN ?_
   apply pN
   exact ⟨([115, 117, 102, 102, 105, 120]), hg, (Nat.le_of_ble_eq_true (by rfl)), (s.sb rfl rfl rfl)⟩
  replace hg := br_f hg hc6
  apply wp_skip
  refine p_inN ?_
  apply pN
  exact ⟨([112, 114, 101, 102, 105, 120]), hg, (Nat.le_of_ble_eq_true (by rfl)), (s.sb rfl rfl rfl)⟩
 clear s a; rintro a w ⟨s_4, hg, ls_4, s⟩
 subst hk3
 apply wQ
 apply wR
 refine asg s rfl rfl fun a s => ?_
 apply wN
 apply wp_block
 refine c_loop (σ := Nat) (fun m1 a w => ∃ (s_7 : (List UInt8)) (i_8 : Nat), r21_affixed_L0 n a_ m1 s_7 i_8 = some r ∧ ((s_7).length ≤ 9223372036854775807) ∧ St (cx f90 M w0) [(1, vP b2 0), (3, vT s_7), (4, vI (((i_8 : Nat) : Int)))] [(1000, Ob.box b2 [vI a_.Kind, sl Ap02 a_.Pairs cp02] 92)] [(101, sF RChange Ap02 cp02 a_.Pairs)] a w) (fun m1 => m1) n ⟨(s_4), (0), hg, (by omega), (s.sb rfl rfl rfl)⟩ ?_
 clear s a; rintro m1 a w ⟨s_7, i_8, hg, ls_7, s⟩
 rcases m1 with _ | m1
 ·rw [r21_affixed_L0] at hg; cases hg
 rw [r21_affixed_L0] at hg
 apply wQ
 apply wR
 refine mv s rfl rfl fun a s => ?_
 refine qq s rfl (y_boxField (o' := 1) s rfl underlying92 rfl rfl rfl) fun a s => ?_
 refine qq s rfl (y_loadBox1 (kk := 1000) s rfl rfl rfl underlying90 rfl) fun a s => ?_
 refine qq s rfl (y_lenSlice s rfl underlying90) fun a s => ?_
 refine qq s rfl (y_lssN (i := i_8) (j := ((a_.Pairs).length)) s rfl rfl) fun a s => ?_
 apply wN
 refine c_dec s rfl (fun hc9 => ?_) (fun hc9 => ?_)
 ·replace hg := br_t hg hc9
  have hmx10 := SlR.mx (s.ft 101 rfl)
  apply wp_skip
  apply pN
  apply wQ
  apply wp_block
  apply wQ
  apply wR
  refine mv s rfl rfl fun a s => ?_
  refine qq s rfl (y_gtrN (i := i_8) (j := 0) s rfl rfl) fun a s => ?_
  apply wN
  obtain ⟨k11, hg, hk11⟩ := jn_some hg
  refine c_post (fun a w => ∃ (s_12 : (List UInt8)), k11 s_12 = some r ∧ ((s_12).length ≤ 9223372036854775807) ∧ St (cx f90 M w0) [(1, vP b2 0), (3, vT s_12), (4, vI (((i_8 : Nat) : Int)))] [(1000, Ob.box b2 [vI a_.Kind, sl Ap02 a_.Pairs cp02] 92)] [(101, sF RChange Ap02 cp02 a_.Pairs)] a w) ?_ ?_
  ·refine c_dec s rfl (fun hc13 => ?_) (fun hc13 => ?_)
   ·replace hg := br_t hg hc13
    obtain ⟨hk14, hg⟩ := chk_some hg
    apply wL
    refine mv s rfl rfl fun a s => ?_
    refine qq s rfl (y_concat s rfl rfl hk14) fun a s => ?_
    refine asg s rfl rfl fun a s => ?_
    apply wN
    exact ⟨(s_7 ++ [44]), hg, (by rw [List.length_append]; omega), (s.sb rfl rfl rfl)⟩
   replace hg := br_f hg hc13
   apply wp_skip
   apply pN
   exact ⟨(s_7), hg, (by omega), (s.sb rfl rfl rfl)⟩
  clear s a; rintro a w ⟨s_12, hg, ls_12, s⟩
  subst hk11
  obtain ⟨hk15, hg⟩ := chk_some hg
  obtain ⟨x17, hx17, hg⟩ := bind_some hg
  obtain ⟨hk19, hg⟩ := chk_some hg
  obtain ⟨hk20, hg⟩ := chk_some hg
  obtain ⟨hk23, hg⟩ := chk_some hg
  obtain ⟨hk24, hg⟩ := chk_some hg
  refine d_plan s [] [(0, some 0), (1, some 0), (2, some 0), (3, some 1000), (4, some 0), (5, some 0), (6, some 0), (7, some 0), (8, some 0), (9, some 0), (10, some 0), (11, some 1000), (12, some 0), (13, some 0), (14, some 0), (15, some 0), (16, some 0), (17, some 0), (18, some 0)] rfl (by kernel_rfl) (by kernel_rfl) rfl ?_; clear s; intro wr hZ s; have hR := s.wd
  refine qt s hR rfl (y_move s rfl) fun a s => ?_
  refine qt s hR rfl (y_concat s rfl rfl hk15) fun a s => ?_
  refine qt s hR rfl (y_boxField (o' := 1) s rfl underlying92 rfl rfl rfl) fun a s => ?_
  refine qt s hR rfl (y_loadBox1 (kk := 1000) s rfl rfl rfl underlying90 rfl) fun a s => ?_
  refine qt s hR rfl (y_move s rfl) fun a s => ?_
  obtain ⟨p25, hep25, hpp25⟩ := SlR.elemX (s.ft 101 rfl) hx17
  refine qt s hR rfl (y_elem (sz := 2) (i := i_8) s rfl rfl underlying90 rfl hep25 rfl (lt_of_get hx17)) fun a s => ?_
  refine qt s hR rfl (y_ptrField (o' := 0) s rfl underlying144 rfl rfl rfl) fun a s => ?_
  obtain ⟨hlq26, hmq26, csq26, hdq26, hcq26⟩ := hpp25
  obtain ⟨rfl, lq261, lq262⟩ := RChange.open hdq26
  refine qt s hR rfl (y_ldp1 s rfl hlq26 hmq26 (hcq26 0 _ rfl) underlying9 rfl) fun a s => ?_
  refine qt s hR rfl (y_concat s rfl rfl hk19) fun a s => ?_
  refine qt s hR rfl (y_concat s rfl rfl hk20) fun a s => ?_
  refine qt s hR rfl (y_boxField (o' := 1) s rfl underlying92 rfl rfl rfl) fun a s => ?_
  refine qt s hR rfl (y_loadBox1 (kk := 1000) s rfl rfl rfl underlying90 rfl) fun a s => ?_
  refine qt s hR rfl (y_move s rfl) fun a s => ?_
  obtain ⟨p27, hep27, hpp27⟩ := SlR.elemX (s.ft 101 rfl) hx17
  refine qt s hR rfl (y_elem (sz := 2) (i := i_8) s rfl rfl underlying90 rfl hep27 rfl (lt_of_get hx17)) fun a s => ?_
  refine qt s hR rfl (y_ptrField (o' := 1) s rfl underlying144 rfl rfl rfl) fun a s => ?_
  obtain ⟨hlq28, hmq28, csq28, hdq28, hcq28⟩ := hpp27
  obtain ⟨rfl, lq281, lq282⟩ := RChange.open hdq28
  refine qt s hR rfl (y_ldp1 s rfl hlq28 hmq28 (hcq28 1 _ rfl) underlying9 rfl) fun a s => ?_
  refine qt s hR rfl (y_concat s rfl rfl hk23) fun a s => ?_
  refine qt s hR rfl (y_concat s rfl rfl hk24) fun a s => ?_
  refine qt s hR rfl (y_assign s rfl) fun a s => ?_
  clear hR hZ
  refine p_inN ?_
  apply pN
  apply wL
  refine mv s rfl rfl fun a s => ?_
  refine qq s rfl (y_addN (i := i_8) (j := 1) s rfl rfl (in64.2 (by omega))) fun a s => ?_
  refine asg s rfl rfl fun a s => ?_
  apply wN
  exact ⟨m1, Nat.lt_succ_self _, ⟨(((((s_12 ++ [32, 34]) ++ x17.Old) ++ [34, 32, 34]) ++ x17.New) ++ [34]), (i_8 + 1), hg, (by rw [List.length_append]; omega), (s.sb rfl rfl rfl)⟩⟩
 replace hg := br_f hg hc9
 apply wp_exit
 refine p_then ?_
 refine p_then ?_
 refine p_in ?_
 apply pN
 apply wR
 refine mv s rfl rfl fun a s => ?_
 refine asg s rfl rfl fun a s => ?_
 apply wN
 apply wp_ret
 obtain rfl := Option.some.inj hg
 refine fin1 (fn := Tryz.f90) s rfl (r_tmp s rfl) ?_
 exact ⟨rfl, (by omega)⟩
set_option maxHeartbeats 1000000 in
theorem c_r21_module (n : Nat) (M : Bs) (w0 : World) (hM : ∀ b, M b → b < w0.heap.size) (t_ : Module) (Ap02 : Option Addr) (cp02 : Nat) (Ap03 : Option Addr) (cp03 : Nat) (Ap04 : Option Addr) (cp04 : Nat) (Ap05 : Option Addr) (cp05 : Nat) (Ap06 : Option Addr) (cp06 : Nat) (Ap07 : Option Addr) (cp07 : Nat) (Ap08 : Option Addr) (cp08 : Nat) (Ap09 : Option Addr) (cp09 : Nat) (Ap010 : Option Addr) (cp010 : Nat) (lp01 : (t_.Name).length ≤ 9223372036854775807) (hp02 : SlR Rep.str M w0 Ap02 (t_.Imports).length cp02 (t_.Imports)) (hp03 : SlR RTypeDecl M w0 Ap03 (t_.Types).length cp03 (t_.Types)) (hp04 : SlR RDef M w0 Ap04 (t_.Templates).length cp04 (t_.Templates)) (hp05 : SlR REntryDecl M w0 Ap05 (t_.Entries).length cp05 (t_.Entries)) (hp06 : SlR RLexDecl M w0 Ap06 (t_.LexRules).length cp06 (t_.LexRules)) (hp07 : SlR RDef M w0 Ap07 (t_.Rules).length cp07 (t_.Rules)) (hp08 : SlR RDef M w0 Ap08 (t_.Roots).length cp08 (t_.Roots)) (hp09 : SlR (Rep.list Rep.str) M w0 Ap09 (t_.Checks).length cp09 (t_.Checks)) (hp010 : SlR Rep.str M w0 Ap010 (t_.Drops).length cp010 (t_.Drops)) (r : (List UInt8)) (hg : r21_module n t_ = some r) :
    Calls Tryz.prog 54 [.agg #[.string (bs (t_.Name)), .slice (Ap02) ((t_.Imports).length) (cp02), .slice (Ap03) ((t_.Types).length) (cp03), .slice (Ap04) ((t_.Templates).length) (cp04), .slice (Ap05) ((t_.Entries).length) (cp05), .slice (Ap06) ((t_.LexRules).length) (cp06), .slice (Ap07) ((t_.Rules).length) (cp07), .slice (Ap08) ((t_.Roots).length) (cp08), .slice (Ap09) ((t_.Checks).length) (cp09), .slice (Ap010) ((t_.Drops).length) (cp010)]].toArray w0 (Ret noB w0 fun v w => v = .string (bs (r)) ∧ ((r).length ≤ 9223372036854775807)) := by
 unfold r21_module at hg
 refine enter M noB func54 rfl rfl hM ?_
 intro a s
 replace s := s.es 101 hp02
 replace s := s.es 102 hp03
 replace s := s.es 103 hp04
 replace s := s.es 104 hp05
 replace s := s.es 105 hp06
 replace s := s.es 106 hp07
 replace s := s.es 107 hp08
 replace s := s.es 108 hp09
 replace s := s.es 109 hp010
 apply wR
 refine l_seq rfl (l_box (zs := [vT t_.Name, sl Ap02 t_.Imports cp02, sl Ap03 t_.Types cp03, sl Ap04 t_.Templates cp04, sl Ap05 t_.Entries cp05, sl Ap06 t_.LexRules cp06, sl Ap07 t_.Rules cp07, sl Ap08 t_.Roots cp08, sl Ap09 t_.Checks cp09, sl Ap010 t_.Drops cp010]) s 1000 rfl rfl rfl rfl fun b2 a w hb hK s => ?_)
 refine asg s rfl rfl fun a s => ?_
 apply wN
 apply wQ
 obtain ⟨hk3, hg⟩ := chk_some hg
 obtain ⟨hk4, hg⟩ := chk_some hg
 apply wL
 refine qq s rfl (y_boxField (o' := 0) s rfl underlying38 rfl rfl rfl) fun a s => ?_
 refine qq s rfl (y_loadBox1 (kk := 1000) s rfl rfl rfl underlying9 rfl) fun a s => ?_
 refine qq s rfl (y_concat s rfl rfl hk3) fun a s => ?_
 refine qq s rfl (y_concat s rfl rfl hk4) fun a s => ?_
 refine asg s rfl rfl fun a s => ?_
 apply wN
 apply wQ
 apply wR
 refine asg s rfl rfl fun a s => ?_
 apply wN
 obtain ⟨k5, hg, hk5⟩ := jn_some hg
 refine c_post (fun a w => ∃ (t_6 : (List UInt8)), k5 t_6 = some r ∧ ((t_6).length ≤ 9223372036854775807) ∧ St (cx f54 M w0) [(1, vP b2 0), (3, vT t_6)] [(1000, Ob.box b2 [vT t_.Name, sl Ap02 t_.Imports cp02, sl Ap03 t_.Types cp03, sl Ap04 t_.Templates cp04, sl Ap05 t_.Entries cp05, sl Ap06 t_.LexRules cp06, sl Ap07 t_.Rules cp07, sl Ap08 t_.Roots cp08, sl Ap09 t_.Checks cp09, sl Ap010 t_.Drops cp010] 38)] [(101, sF Rep.str Ap02 cp02 t_.Imports), (102, sF RTypeDecl Ap03 cp03 t_.Types), (103, sF RDef Ap04 cp04 t_.Templates), (104, sF REntryDecl Ap05 cp05 t_.Entries), (105, sF RLexDecl Ap06 cp06 t_.LexRules), (106, sF RDef Ap07 cp07 t_.Rules), (107, sF RDef Ap08 cp08 t_.Roots), (108, sF (Rep.list Rep.str) Ap09 cp09 t_.Checks), (109, sF Rep.str Ap010 cp010 t_.Drops)] a w) ?_ ?_
 ·apply wp_block
  refine c_loop (σ := Nat) (fun m1 a w => ∃ (t_7 : (List UInt8)) (t_8 : Nat), r21_module_L0 n t_ k5 m1 t_7 t_8 = some r ∧ ((t_7).length ≤ 9223372036854775807) ∧ St (cx f54 M w0) [(1, vP b2 0), (3, vT t_7), (4, vI (((t_8 : Nat) : Int)))] [(1000, Ob.box b2 [vT t_.Name, sl Ap02 t_.Imports cp02, sl Ap03 t_.Types cp03, sl Ap04 t_.Templates cp04, sl Ap05 t_.Entries cp05, sl Ap06 t_.LexRules cp06, sl Ap07 t_.Rules cp07, sl Ap08 t_.Roots cp08, sl Ap09 t_.Checks cp09, sl Ap010 t_.Drops cp010] 38)] [(101, sF Rep.str Ap02 cp02 t_.Imports), (102, sF RTypeDecl Ap03 cp03 t_.Types), (103, sF RDef Ap04 cp04 t_.Templates), (104, sF REntryDecl Ap05 cp05 t_.Entries), (105, sF RLexDecl Ap06 cp06 t_.LexRules), (106, sF RDef Ap07 cp07 t_.Rules), (107, sF RDef Ap08 cp08 t_.Roots), (108, sF (Rep.list Rep.str) Ap09 cp09 t_.Checks), (109, sF Rep.str Ap010 cp010 t_.Drops)] a w) (fun m1 => m1) n ⟨(([109, 111, 100, 117, 108, 101, 32] ++ t_.Name) ++ [59, 10]), (0), hg, (by rw [List.length_append]; omega), (s.sb rfl rfl rfl)⟩ ?_
  clear s a; rintro m1 a w ⟨t_7, t_8, hg, lt_7, s⟩
  rcases m1 with _ | m1
  ·rw [r21_module_L0] at hg; cases hg
  rw [r21_module_L0] at hg
  apply wQ
  apply wR
  refine mv s rfl rfl fun a s => ?_
  refine qq s rfl (y_boxField (o' := 1) s rfl underlying38 rfl rfl rfl) fun a s => ?_
  refine qq s rfl (y_loadBox1 (kk := 1000) s rfl rfl rfl underlying25 rfl) fun a s => ?_
  refine qq s rfl (y_lenSlice s rfl underlying25) fun a s => ?_
  refine qq s rfl (y_lssN (i := t_8) (j := ((t_.Imports).length)) s rfl rfl) fun a s => ?_
  apply wN
  refine c_dec s rfl (fun hc9 => ?_) (fun hc9 => ?_)
  ·replace hg := br_t hg hc9
   have hmx10 := SlR.mx (s.ft 101 rfl)
   apply wp_skip
   apply pN
   apply wQ
   apply wp_block
   obtain ⟨hk11, hg⟩ := chk_some hg
   obtain ⟨x13, hx13, hg⟩ := bind_some hg
   obtain ⟨hk15, hg⟩ := chk_some hg
   obtain ⟨hk16, hg⟩ := chk_some hg
   apply wL
   refine mv s rfl rfl fun a s => ?_
   refine qq s rfl (y_concat s rfl rfl hk11) fun a s => ?_
   refine qq s rfl (y_boxField (o' := 1) s rfl underlying38 rfl rfl rfl) fun a s => ?_
   refine qq s rfl (y_loadBox1 (kk := 1000) s rfl rfl rfl underlying25 rfl) fun a s => ?_
   refine mv s rfl rfl fun a s => ?_
   obtain ⟨p17, hep17, hpp17⟩ := SlR.elemX (s.ft 101 rfl) hx13
   refine qq s rfl (y_elem (sz := 1) (i := t_8) s rfl rfl underlying25 rfl hep17 rfl (lt_of_get hx13)) fun a s => ?_
   obtain ⟨hlq18, hmq18, csq18, hdq18, hcq18⟩ := hpp17
   obtain ⟨rfl, lq181⟩ := hdq18
   refine qq s rfl (y_ldp1 s rfl hlq18 hmq18 (hcq18 0 _ rfl) underlying9 rfl) fun a s => ?_
   refine qq s rfl (y_concat s rfl rfl hk15) fun a s => ?_
   refine qq s rfl (y_concat s rfl rfl hk16) fun a s => ?_
   refine asg s rfl rfl fun a s => ?_
   apply wO
   refine p_inN ?_
   apply pN
   apply wL
   refine mv s rfl rfl fun a s => ?_
   refine qq s rfl (y_addN (i := t_8) (j := 1) s rfl rfl (in64.2 (by omega))) fun a s => ?_
   refine asg s rfl rfl fun a s => ?_
   apply wN
   exact ⟨m1, Nat.lt_succ_self _, ⟨(((t_7 ++ [105, 109, 112, 111, 114, 116, 32]) ++ x13) ++ [59, 10]), (t_8 + 1), hg, (by rw [List.length_append]; omega), (s.sb rfl rfl rfl)⟩⟩
  replace hg := br_f hg hc9
  apply wp_exit
  refine p_then ?_
  refine p_then ?_
  refine p_in ?_
  apply pN
  exact ⟨(t_7), hg, (by omega), (s.sb rfl rfl rfl)⟩
 clear s a; rintro a w ⟨t_6, hg, lt_6, s⟩
 subst hk5
 apply wQ
 apply wR
 refine asg s rfl rfl fun a s => ?_
 apply wN
 obtain ⟨k19, hg, hk19⟩ := jn_some hg
 refine c_post (fun a w => ∃ (t_20 : (List UInt8)), k19 t_20 = some r ∧ ((t_20).length ≤ 9223372036854775807) ∧ St (cx f54 M w0) [(1, vP b2 0), (3, vT t_20)] [(1000, Ob.box b2 [vT t_.Name, sl Ap02 t_.Imports cp02, sl Ap03 t_.Types cp03, sl Ap04 t_.Templates cp04, sl Ap05 t_.Entries cp05, sl Ap06 t_.LexRules cp06, sl Ap07 t_.Rules cp07, sl Ap08 t_.Roots cp08, sl Ap09 t_.Checks cp09, sl Ap010 t_.Drops cp010] 38)] [(101, sF Rep.str Ap02 cp02 t_.Imports), (102, sF RTypeDecl Ap03 cp03 t_.Types), (103, sF RDef Ap04 cp04 t_.Templates), (104, sF REntryDecl Ap05 cp05 t_.Entries), (105, sF RLexDecl Ap06 cp06 t_.LexRules), (106, sF RDef Ap07 cp07 t_.Rules), (107, sF RDef Ap08 cp08 t_.Roots), (108, sF (Rep.list Rep.str) Ap09 cp09 t_.Checks), (109, sF Rep.str Ap010 cp010 t_.Drops)] a w) ?_ ?_
 ·apply wp_block
  refine c_loop (σ := Nat) (fun m2 a w => ∃ (t_21 : (List UInt8)) (t_22 : Nat), r21_module_L1 n t_ k19 m2 t_21 t_22 = some r ∧ ((t_21).length ≤ 9223372036854775807) ∧ St (cx f54 M w0) [(1, vP b2 0), (3, vT t_21), (5, vI (((t_22 : Nat) : Int)))] [(1000, Ob.box b2 [vT t_.Name, sl Ap02 t_.Imports cp02, sl Ap03 t_.Types cp03, sl Ap04 t_.Templates cp04, sl Ap05 t_.Entries cp05, sl Ap06 t_.LexRules cp06, sl Ap07 t_.Rules cp07, sl Ap08 t_.Roots cp08, sl Ap09 t_.Checks cp09, sl Ap010 t_.Drops cp010] 38)] [(101, sF Rep.str Ap02 cp02 t_.Imports), (102, sF RTypeDecl Ap03 cp03 t_.Types), (103, sF RDef Ap04 cp04 t_.Templates), (104, sF REntryDecl Ap05 cp05 t_.Entries), (105, sF RLexDecl Ap06 cp06 t_.LexRules), (106, sF RDef Ap07 cp07 t_.Rules), (107, sF RDef Ap08 cp08 t_.Roots), (108, sF (Rep.list Rep.str) Ap09 cp09 t_.Checks), (109, sF Rep.str Ap010 cp010 t_.Drops)] a w) (fun m2 => m2) n ⟨(t_6), (0), hg, (by omega), (s.sb rfl rfl rfl)⟩ ?_
  clear s a; rintro m2 a w ⟨t_21, t_22, hg, lt_21, s⟩
  rcases m2 with _ | m2
  ·rw [r21_module_L1] at hg; cases hg
  rw [r21_module_L1] at hg
  apply wQ
  apply wR
  refine mv s rfl rfl fun a s => ?_
  refine qq s rfl (y_boxField (o' := 2) s rfl underlying38 rfl rfl rfl) fun a s => ?_
  refine qq s rfl (y_loadBox1 (kk := 1000) s rfl rfl rfl underlying32 rfl) fun a s => ?_
  refine qq s rfl (y_lenSlice s rfl underlying32) fun a s => ?_
  refine qq s rfl (y_lssN (i := t_22) (j := ((t_.Types).length)) s rfl rfl) fun a s => ?_
  apply wN
  refine c_dec s rfl (fun hc23 => ?_) (fun hc23 => ?_)
  ·replace hg := br_t hg hc23
   have hmx24 := SlR.mx (s.ft 102 rfl)
   apply wp_skip
   apply pN
   apply wQ
   apply wp_block
   obtain ⟨x26, hx26, hg⟩ := bind_some hg
   obtain ⟨r28, hr28, hg⟩ := bind_some hg
   obtain ⟨hk31, hg⟩ := chk_some hg
   apply wL
   refine mv s rfl rfl fun a s => ?_
   refine qq s rfl (y_boxField (o' := 2) s rfl underlying38 rfl rfl rfl) fun a s => ?_
   refine qq s rfl (y_loadBox1 (kk := 1000) s rfl rfl rfl underlying32 rfl) fun a s => ?_
   refine mv s rfl rfl fun a s => ?_
   obtain ⟨p32, hep32, hpp32⟩ := SlR.elemX (s.ft 102 rfl) hx26
   refine qq s rfl (y_elem (sz := 3) (i := t_22) s rfl rfl underlying32 rfl hep32 rfl (lt_of_get hx26)) fun a s => ?_
   obtain ⟨hlq33, hmq33, csq33, hdq33, hcq33⟩ := hpp32
   obtain ⟨Aq332, cq332, Aq333, cq333, rfl, lq331, hq332, hq333⟩ := RTypeDecl.open hdq33
   replace s := s.ns 112 hq332
   replace s := s.ns 113 hq333
   refine qq s rfl (y_ldp s rfl hlq33 hmq33 (by simpa using hcq33) underlying49 rfl rfl) fun a s => ?_
   refine lc s rfl func86 (by kernel_rfl) (c_r21_typed n _ _ s.lt _ _ _ _ _ (by omega) (s.ft 112 rfl) (s.ft 113 rfl) _ hr28) fun v34 a w hK hp s => ?_
   obtain ⟨rfl, lu35a1⟩ := hp
   refine qq s rfl (y_concat s rfl rfl hk31) fun a s => ?_
   refine asg s rfl rfl fun a s => ?_
   apply wO
   refine p_inN ?_
   apply pN
   apply wL
   refine mv s rfl rfl fun a s => ?_
   refine qq s rfl (y_addN (i := t_22) (j := 1) s rfl rfl (in64.2 (by omega))) fun a s => ?_
   refine asg s rfl rfl fun a s => ?_
   apply wN
   exact ⟨m2, Nat.lt_succ_self _, ⟨(t_21 ++ r28), (t_22 + 1), hg, (by rw [List.length_append]; omega), (s.sb rfl rfl rfl)⟩⟩
  replace hg := br_f hg hc23
  apply wp_exit
  refine p_then ?_
  refine p_then ?_
  refine p_in ?_
  apply pN
  exact ⟨(t_21), hg, (by omega), (s.sb rfl rfl rfl)⟩
 clear s a; rintro a w ⟨t_20, hg, lt_20, s⟩
 subst hk19
 apply wQ
 obtain ⟨r36, hr36, hg⟩ := bind_some hg
 obtain ⟨hk39, hg⟩ := chk_some hg
 apply wL
 refine mv s rfl rfl fun a s => ?_
 refine qq s rfl (y_boxField (o' := 3) s rfl underlying38 rfl rfl rfl) fun a s => ?_
 refine qq s rfl (y_loadBox1 (kk := 1000) s rfl rfl rfl underlying33 rfl) fun a s => ?_
 refine lc s rfl func87 (by kernel_rfl) (c_r21_defs n _ _ s.lt _ (Nat.le_of_ble_eq_true (by rfl)) _ _ _ (s.ft 103 rfl) _ hr36) fun v40 a w hK hp s => ?_
 obtain ⟨rfl, lu41a1⟩ := hp
 refine qq s rfl (y_concat s rfl rfl hk39) fun a s => ?_
 refine asg s rfl rfl fun a s => ?_
 apply wN
 apply wQ
 apply wR
 refine asg s rfl rfl fun a s => ?_
 apply wN
 obtain ⟨k42, hg, hk42⟩ := jn_some hg
 refine c_post (fun a w => ∃ (t_43 : (List UInt8)), k42 t_43 = some r ∧ ((t_43).length ≤ 9223372036854775807) ∧ St (cx f54 M w0) [(1, vP b2 0), (3, vT t_43)] [(1000, Ob.box b2 [vT t_.Name, sl Ap02 t_.Imports cp02, sl Ap03 t_.Types cp03, sl Ap04 t_.Templates cp04, sl Ap05 t_.Entries cp05, sl Ap06 t_.LexRules cp06, sl Ap07 t_.Rules cp07, sl Ap08 t_.Roots cp08, sl Ap09 t_.Checks cp09, sl Ap010 t_.Drops cp010] 38)] [(101, sF Rep.str Ap02 cp02 t_.Imports), (102, sF RTypeDecl Ap03 cp03 t_.Types), (103, sF RDef Ap04 cp04 t_.Templates), (104, sF REntryDecl Ap05 cp05 t_.Entries), (105, sF RLexDecl Ap06 cp06 t_.LexRules), (106, sF RDef Ap07 cp07 t_.Rules), (107, sF RDef Ap08 cp08 t_.Roots), (108, sF (Rep.list Rep.str) Ap09 cp09 t_.Checks), (109, sF Rep.str Ap010 cp010 t_.Drops)] a w) ?_ ?_
 ·apply wp_block
  refine c_loop (σ := Nat) (fun m3 a w => ∃ (t_44 : (List UInt8)) (t_45 : Nat), r21_module_L2 n t_ k42 m3 t_44 t_45 = some r ∧ ((t_44).length ≤ 9223372036854775807) ∧ St (cx f54 M w0) [(1, vP b2 0), (3, vT t_44), (6, vI (((t_45 : Nat) : Int)))] [(1000, Ob.box b2 [vT t_.Name, sl Ap02 t_.Imports cp02, sl Ap03 t_.Types cp03, sl Ap04 t_.Templates cp04, sl Ap05 t_.Entries cp05, sl Ap06 t_.LexRules cp06, sl Ap07 t_.Rules cp07, sl Ap08 t_.Roots cp08, sl Ap09 t_.Checks cp09, sl Ap010 t_.Drops cp010] 38)] [(101, sF Rep.str Ap02 cp02 t_.Imports), (102, sF RTypeDecl Ap03 cp03 t_.Types), (103, sF RDef Ap04 cp04 t_.Templates), (104, sF REntryDecl Ap05 cp05 t_.Entries), (105, sF RLexDecl Ap06 cp06 t_.LexRules), (106, sF RDef Ap07 cp07 t_.Rules), (107, sF RDef Ap08 cp08 t_.Roots), (108, sF (Rep.list Rep.str) Ap09 cp09 t_.Checks), (109, sF Rep.str Ap010 cp010 t_.Drops)] a w) (fun m3 => m3) n ⟨(t_20 ++ r36), (0), hg, (by rw [List.length_append]; omega), (s.sb rfl rfl rfl)⟩ ?_
  clear s a; rintro m3 a w ⟨t_44, t_45, hg, lt_44, s⟩
  rcases m3 with _ | m3
  ·rw [r21_module_L2] at hg; cases hg
  rw [r21_module_L2] at hg
  apply wQ
  apply wR
  refine mv s rfl rfl fun a s => ?_
  refine qq s rfl (y_boxField (o' := 4) s rfl underlying38 rfl rfl rfl) fun a s => ?_
  refine qq s rfl (y_loadBox1 (kk := 1000) s rfl rfl rfl underlying34 rfl) fun a s => ?_
  refine qq s rfl (y_lenSlice s rfl underlying34) fun a s => ?_
  refine qq s rfl (y_lssN (i := t_45) (j := ((t_.Entries).length)) s rfl rfl) fun a s => ?_
  apply wN
  refine c_dec s rfl (fun hc46 => ?_) (fun hc46 => ?_)
  ·replace hg := br_t hg hc46
   have hmx47 := SlR.mx (s.ft 104 rfl)
   apply wp_skip
   apply pN
   apply wQ
   apply wp_block
   obtain ⟨hk48, hg⟩ := chk_some hg
   obtain ⟨x50, hx50, hg⟩ := bind_some hg
   obtain ⟨hk52, hg⟩ := chk_some hg
   obtain ⟨hk53, hg⟩ := chk_some hg
   obtain ⟨r56, hr56, hg⟩ := bind_some hg
   obtain ⟨hk59, hg⟩ := chk_some hg
   obtain ⟨hk60, hg⟩ := chk_some hg
   obtain ⟨r63, hr63, hg⟩ := bind_some hg
   obtain ⟨hk66, hg⟩ := chk_some hg
   refine d_steps s [] rfl ?_; clear s; intro wr hZ s; have hR := s.wd
   refine nq 0 0 s hR rfl (by kernel_rfl) rfl rfl rfl (y_move s rfl) fun a s => ?_
   refine nq 1 0 s hR rfl (by kernel_rfl) rfl rfl rfl (y_concat s rfl rfl hk48) fun a s => ?_
   refine nq 2 0 s hR rfl (by kernel_rfl) rfl rfl rfl (y_boxField (o' := 4) s rfl underlying38 rfl rfl rfl) fun a s => ?_
   refine nq 3 1000 s hR rfl (by kernel_rfl) rfl rfl rfl (y_loadBox1 (kk := 1000) s rfl rfl rfl underlying34 rfl) fun a s => ?_
   refine nq 4 0 s hR rfl (by kernel_rfl) rfl rfl rfl (y_move s rfl) fun a s => ?_
   obtain ⟨p67, hep67, hpp67⟩ := SlR.elemX (s.ft 104 rfl) hx50
   refine nq 5 0 s hR rfl (by kernel_rfl) rfl rfl rfl (y_elem (sz := 7) (i := t_45) s rfl rfl underlying34 rfl hep67 rfl (lt_of_get hx50)) fun a s => ?_
   refine nq 6 0 s hR rfl (by kernel_rfl) rfl rfl rfl (y_ptrField (o' := 1) s rfl underlying89 rfl rfl rfl) fun a s => ?_
   refine nq 7 0 s hR rfl (by kernel_rfl) rfl rfl rfl (y_ptrField (o' := 1) s rfl underlying62 rfl rfl rfl) fun a s => ?_
   obtain ⟨hlq68, hmq68, csq68, hdq68, hcq68⟩ := hpp67
   obtain ⟨Aq681, cq681, Aq685, cq685, Aq686, cq686, Aq687, cq687, rfl, hq681, lq682, lq684, hq685, hq686, hq687⟩ := REntryDecl.open hdq68
   replace s := s.ns 126 hq681
   replace s := s.ns 127 hq685
   replace s := s.ns 128 hq686
   replace s := s.ns 129 hq687
   refine nq 8 0 s hR rfl (by kernel_rfl) rfl rfl rfl (y_ldp1 s rfl hlq68 hmq68 (hcq68 1 _ rfl) underlying9 rfl) fun a s => ?_
   refine nq 9 0 s hR rfl (by kernel_rfl) rfl rfl rfl (y_concat s rfl rfl hk52) fun a s => ?_
   refine nq 10 0 s hR rfl (by kernel_rfl) rfl rfl rfl (y_concat s rfl rfl hk53) fun a s => ?_
   refine nq 11 0 s hR rfl (by kernel_rfl) rfl rfl rfl (y_boxField (o' := 4) s rfl underlying38 rfl rfl rfl) fun a s => ?_
   refine nq 12 1000 s hR rfl (by kernel_rfl) rfl rfl rfl (y_loadBox1 (kk := 1000) s rfl rfl rfl underlying34 rfl) fun a s => ?_
   refine nq 13 0 s hR rfl (by kernel_rfl) rfl rfl rfl (y_move s rfl) fun a s => ?_
   obtain ⟨p69, hep69, hpp69⟩ := SlR.elemX (s.ft 104 rfl) hx50
   refine nq 14 0 s hR rfl (by kernel_rfl) rfl rfl rfl (y_elem (sz := 7) (i := t_45) s rfl rfl underlying34 rfl hep69 rfl (lt_of_get hx50)) fun a s => ?_
   refine nq 15 0 s hR rfl (by kernel_rfl) rfl rfl rfl (y_ptrField (o' := 0) s rfl underlying89 rfl rfl rfl) fun a s => ?_
   obtain ⟨hlq70, hmq70, csq70, hdq70, hcq70⟩ := hpp69
   obtain ⟨Aq701, cq701, Aq705, cq705, Aq706, cq706, Aq707, cq707, rfl, hq701, lq702, lq704, hq705, hq706, hq707⟩ := REntryDecl.open hdq70
   replace s := s.ns 130 hq701
   replace s := s.ns 131 hq705
   replace s := s.ns 132 hq706
   replace s := s.ns 133 hq707
   refine nq 16 0 s hR rfl (by kernel_rfl) rfl rfl rfl (y_ldp1 s rfl hlq70 hmq70 (hcq70 0 _ rfl) underlying25 rfl) fun a s => ?_
   refine nq 20 0 s hR rfl (by kernel_rfl) rfl rfl rfl (y_boxField (o' := 4) s rfl underlying38 rfl rfl rfl) fun a s => ?_
   refine nq 21 1000 s hR rfl (by kernel_rfl) rfl rfl rfl (y_loadBox1 (kk := 1000) s rfl rfl rfl underlying34 rfl) fun a s => ?_
   refine nq 22 0 s hR rfl (by kernel_rfl) rfl rfl rfl (y_move s rfl) fun a s => ?_
   obtain ⟨p71, hep71, hpp71⟩ := SlR.elemX (s.ft 104 rfl) hx50
   refine nq 23 0 s hR rfl (by kernel_rfl) rfl rfl rfl (y_elem (sz := 7) (i := t_45) s rfl rfl underlying34 rfl hep71 rfl (lt_of_get hx50)) fun a s => ?_
   refine nq 24 0 s hR rfl (by kernel_rfl) rfl rfl rfl (y_ptrField (o' := 1) s rfl underlying89 rfl rfl rfl) fun a s => ?_
   obtain ⟨hlq72, hmq72, csq72, hdq72, hcq72⟩ := hpp71
   obtain ⟨Aq721, cq721, Aq725, cq725, Aq726, cq726, Aq727, cq727, rfl, hq721, lq722, lq724, hq725, hq726, hq727⟩ := REntryDecl.open hdq72
   replace s := s.ns 134 hq721
   replace s := s.ns 135 hq725
   replace s := s.ns 136 hq726
   replace s := s.ns 137 hq727
   refine nq 25 0 s hR rfl (by kernel_rfl) rfl rfl rfl (y_ldp (cs := [vT x50.Def.Name, vI x50.Def.Strict.Op, vT x50.Def.Strict.Name, sl Aq725 x50.Def.Strict.Path cq725, sl Aq726 x50.Def.Strict.Kids cq726, sl Aq727 x50.Def.Defaults cq727]) s rfl hlq72 hmq72 (fun j v hj => hcq72 (1 + j) v (by rcases j with _ | (_ | (_ | (_ | (_ | (_ | _))))) <;> first | exact hj | cases hj)) underlying62 rfl rfl) fun a s => ?_
   refine n_1 17 s (by kernel_rfl) rfl rfl (l_call (cap := []) s rfl func88 rfl (by kernel_rfl) rfl rfl (c_r21_joined n _ _ s.lt _ _ _ (s.ft 130 rfl) _ (Nat.le_of_ble_eq_true (by rfl)) _ hr56) fun v73 a w hK hp s => ?_)
   replace hZ := Nat.le_trans hZ hK.size; refine ⟨fun g _ h => h.grow hK, ?_⟩; clear hK
   obtain ⟨rfl, lu74a1⟩ := hp
   refine n_2 18 26 s (by kernel_rfl) rfl rfl rfl rfl ?_ ?_
   ·refine l_quiet s rfl rfl (y_concat s rfl rfl hk59) fun a s => ?_; refine ⟨fun g _ h => h, ?_⟩
    refine n_2 19 26 s (by kernel_rfl) rfl rfl rfl rfl ?_ ?_
    ·refine l_quiet s rfl rfl (y_concat s rfl rfl hk60) fun a s => ?_; refine ⟨fun g _ h => h, ?_⟩
     refine n_1 26 s (by kernel_rfl) rfl rfl (l_call (cap := []) s rfl func89 rfl (by kernel_rfl) rfl rfl (c_r21_defined n _ _ s.lt _ _ _ _ _ _ _ (by omega) (by omega) (s.ft 135 rfl) (s.ft 136 rfl) (s.ft 137 rfl) _ hr63) fun v75 a w hK hp s => ?_)
     replace hZ := Nat.le_trans hZ hK.size; refine ⟨fun g _ h => h.grow hK, ?_⟩; clear hK
     obtain ⟨rfl, lu76a1⟩ := hp
     refine n_1 27 s (by kernel_rfl) rfl rfl (l_quiet s rfl rfl (y_concat s rfl rfl hk66) fun a s => ?_); refine ⟨fun g _ h => h, ?_⟩
     refine n_1 28 s (by kernel_rfl) rfl rfl (l_quiet s rfl rfl (y_assign s rfl) fun a s => ?_); refine ⟨fun g _ h => h, ?_⟩
     refine n_end (by kernel_rfl) ?_; clear hR hZ
     refine p_inN ?_
     apply pN
     apply wL
     refine mv s rfl rfl fun a s => ?_
     refine qq s rfl (y_addN (i := t_45) (j := 1) s rfl rfl (in64.2 (by omega))) fun a s => ?_
     refine asg s rfl rfl fun a s => ?_
     apply wN
     exact ⟨m3, Nat.lt_succ_self _, ⟨((((((t_44 ++ [101, 110, 116, 114, 121, 32]) ++ x50.Def.Name) ++ [32, 34]) ++ r56) ++ [34]) ++ r63), (t_45 + 1), hg, (by rw [List.length_append]; omega), (s.sb rfl rfl rfl)⟩⟩
    ·refine l_call (cap := []) s rfl func89 rfl (by kernel_rfl) rfl rfl (c_r21_defined n _ _ s.lt _ _ _ _ _ _ _ (by omega) (by omega) (s.ft 135 rfl) (s.ft 136 rfl) (s.ft 137 rfl) _ hr63) fun v77 a w hK hp s => ?_
     replace hZ := Nat.le_trans hZ hK.size; refine ⟨fun g _ h => h.grow hK, ?_⟩; clear hK
     obtain ⟨rfl, lu78a1⟩ := hp
     refine n_1 19 s (by kernel_rfl) rfl rfl (l_quiet s rfl rfl (y_concat s rfl rfl hk60) fun a s => ?_); refine ⟨fun g _ h => h, ?_⟩
     refine n_1 27 s (by kernel_rfl) rfl rfl (l_quiet s rfl rfl (y_concat s rfl rfl hk66) fun a s => ?_); refine ⟨fun g _ h => h, ?_⟩
     refine n_1 28 s (by kernel_rfl) rfl rfl (l_quiet s rfl rfl (y_assign s rfl) fun a s => ?_); refine ⟨fun g _ h => h, ?_⟩
     refine n_end (by kernel_rfl) ?_; clear hR hZ
     refine p_inN ?_
     apply pN
     apply wL
     refine mv s rfl rfl fun a s => ?_
     refine qq s rfl (y_addN (i := t_45) (j := 1) s rfl rfl (in64.2 (by omega))) fun a s => ?_
     refine asg s rfl rfl fun a s => ?_
     apply wN
     exact ⟨m3, Nat.lt_succ_self _, ⟨((((((t_44 ++ [101, 110, 116, 114, 121, 32]) ++ x50.Def.Name) ++ [32, 34]) ++ r56) ++ [34]) ++ r63), (t_45 + 1), hg, (by rw [List.length_append]; omega), (s.sb rfl rfl rfl)⟩⟩
   ·refine l_call (cap := []) s rfl func89 rfl (by kernel_rfl) rfl rfl (c_r21_defined n _ _ s.lt _ _ _ _ _ _ _ (by omega) (by omega) (s.ft 135 rfl) (s.ft 136 rfl) (s.ft 137 rfl) _ hr63) fun v79 a w hK hp s => ?_
    replace hZ := Nat.le_trans hZ hK.size; refine ⟨fun g _ h => h.grow hK, ?_⟩; clear hK
    obtain ⟨rfl, lu80a1⟩ := hp
    refine n_1 18 s (by kernel_rfl) rfl rfl (l_quiet s rfl rfl (y_concat s rfl rfl hk59) fun a s => ?_); refine ⟨fun g _ h => h, ?_⟩
    refine n_1 19 s (by kernel_rfl) rfl rfl (l_quiet s rfl rfl (y_concat s rfl rfl hk60) fun a s => ?_); refine ⟨fun g _ h => h, ?_⟩
    refine n_1 27 s (by kernel_rfl) rfl rfl (l_quiet s rfl rfl (y_concat s rfl rfl hk66) fun a s => ?_); refine ⟨fun g _ h => h, ?_⟩
    refine n_1 28 s (by kernel_rfl) rfl rfl (l_quiet s rfl rfl (y_assign s rfl) fun a s => ?_); refine ⟨fun g _ h => h, ?_⟩
    refine n_end (by kernel_rfl) ?_; clear hR hZ
    refine p_inN ?_
    apply pN
    apply wL
    refine mv s rfl rfl fun a s => ?_
    refine qq s rfl (y_addN (i := t_45) (j := 1) s rfl rfl (in64.2 (by omega))) fun a s => ?_
    refine asg s rfl rfl fun a s => ?_
    apply wN
    exact ⟨m3, Nat.lt_succ_self _, ⟨((((((t_44 ++ [101, 110, 116, 114, 121, 32]) ++ x50.Def.Name) ++ [32, 34]) ++ r56) ++ [34]) ++ r63), (t_45 + 1), hg, (by rw [List.length_append]; omega), (s.sb rfl rfl rfl)⟩⟩
  replace hg := br_f hg hc46
  apply wp_exit
  refine p_then ?_
  refine p_then ?_
  refine p_in ?_
  apply pN
  exact ⟨(t_44), hg, (by omega), (s.sb rfl rfl rfl)⟩
 clear s a; rintro a w ⟨t_43, hg, lt_43, s⟩
 subst hk42
 apply wQ
 apply wR
 refine asg s rfl rfl fun a s => ?_
 apply wN
 obtain ⟨k81, hg, hk81⟩ := jn_some hg
 refine c_post (fun a w => ∃ (t_82 : (List UInt8)), k81 t_82 = some r ∧ ((t_82).length ≤ 9223372036854775807) ∧ St (cx f54 M w0) [(1, vP b2 0), (3, vT t_82)] [(1000, Ob.box b2 [vT t_.Name, sl Ap02 t_.Imports cp02, sl Ap03 t_.Types cp03, sl Ap04 t_.Templates cp04, sl Ap05 t_.Entries cp05, sl Ap06 t_.LexRules cp06, sl Ap07 t_.Rules cp07, sl Ap08 t_.Roots cp08, sl Ap09 t_.Checks cp09, sl Ap010 t_.Drops cp010] 38)] [(101, sF Rep.str Ap02 cp02 t_.Imports), (102, sF RTypeDecl Ap03 cp03 t_.Types), (103, sF RDef Ap04 cp04 t_.Templates), (104, sF REntryDecl Ap05 cp05 t_.Entries), (105, sF RLexDecl Ap06 cp06 t_.LexRules), (106, sF RDef Ap07 cp07 t_.Rules), (107, sF RDef Ap08 cp08 t_.Roots), (108, sF (Rep.list Rep.str) Ap09 cp09 t_.Checks), (109, sF Rep.str Ap010 cp010 t_.Drops)] a w) ?_ ?_
 ·apply wp_block
  refine c_loop (σ := Nat) (fun m4 a w => ∃ (t_83 : (List UInt8)) (t_84 : Nat), r21_module_L3 n t_ k81 m4 t_83 t_84 = some r ∧ ((t_83).length ≤ 9223372036854775807) ∧ St (cx f54 M w0) [(1, vP b2 0), (3, vT t_83), (7, vI (((t_84 : Nat) : Int)))] [(1000, Ob.box b2 [vT t_.Name, sl Ap02 t_.Imports cp02, sl Ap03 t_.Types cp03, sl Ap04 t_.Templates cp04, sl Ap05 t_.Entries cp05, sl Ap06 t_.LexRules cp06, sl Ap07 t_.Rules cp07, sl Ap08 t_.Roots cp08, sl Ap09 t_.Checks cp09, sl Ap010 t_.Drops cp010] 38)] [(101, sF Rep.str Ap02 cp02 t_.Imports), (102, sF RTypeDecl Ap03 cp03 t_.Types), (103, sF RDef Ap04 cp04 t_.Templates), (104, sF REntryDecl Ap05 cp05 t_.Entries), (105, sF RLexDecl Ap06 cp06 t_.LexRules), (106, sF RDef Ap07 cp07 t_.Rules), (107, sF RDef Ap08 cp08 t_.Roots), (108, sF (Rep.list Rep.str) Ap09 cp09 t_.Checks), (109, sF Rep.str Ap010 cp010 t_.Drops)] a w) (fun m4 => m4) n ⟨(t_43), (0), hg, (by omega), (s.sb rfl rfl rfl)⟩ ?_
  clear s a; rintro m4 a w ⟨t_83, t_84, hg, lt_83, s⟩
  rcases m4 with _ | m4
  ·rw [r21_module_L3] at hg; cases hg
  rw [r21_module_L3] at hg
  apply wQ
  apply wR
  refine mv s rfl rfl fun a s => ?_
  refine qq s rfl (y_boxField (o' := 5) s rfl underlying38 rfl rfl rfl) fun a s => ?_
  refine qq s rfl (y_loadBox1 (kk := 1000) s rfl rfl rfl underlying35 rfl) fun a s => ?_
  refine qq s rfl (y_lenSlice s rfl underlying35) fun a s => ?_
  refine qq s rfl (y_lssN (i := t_84) (j := ((t_.LexRules).length)) s rfl rfl) fun a s => ?_
  apply wN
  refine c_dec s rfl (fun hc85 => ?_) (fun hc85 => ?_)
  ·replace hg := br_t hg hc85
   have hmx86 := SlR.mx (s.ft 105 rfl)
   apply wp_skip
   apply pN
   apply wQ
   apply wp_block
   obtain ⟨hk87, hg⟩ := chk_some hg
   obtain ⟨x89, hx89, hg⟩ := bind_some hg
   obtain ⟨hk91, hg⟩ := chk_some hg
   obtain ⟨hk92, hg⟩ := chk_some hg
   obtain ⟨r95, hr95, hg⟩ := bind_some hg
   obtain ⟨hk98, hg⟩ := chk_some hg
   obtain ⟨r101, hr101, hg⟩ := bind_some hg
   obtain ⟨hk104, hg⟩ := chk_some hg
   refine d_steps s [] rfl ?_; clear s; intro wr hZ s; have hR := s.wd
   refine nq 0 0 s hR rfl (by kernel_rfl) rfl rfl rfl (y_move s rfl) fun a s => ?_
   refine nq 1 0 s hR rfl (by kernel_rfl) rfl rfl rfl (y_concat s rfl rfl hk87) fun a s => ?_
   refine nq 2 0 s hR rfl (by kernel_rfl) rfl rfl rfl (y_boxField (o' := 5) s rfl underlying38 rfl rfl rfl) fun a s => ?_
   refine nq 3 1000 s hR rfl (by kernel_rfl) rfl rfl rfl (y_loadBox1 (kk := 1000) s rfl rfl rfl underlying35 rfl) fun a s => ?_
   refine nq 4 0 s hR rfl (by kernel_rfl) rfl rfl rfl (y_move s rfl) fun a s => ?_
   obtain ⟨p105, hep105, hpp105⟩ := SlR.elemX (s.ft 105 rfl) hx89
   refine nq 5 0 s hR rfl (by kernel_rfl) rfl rfl rfl (y_elem (sz := 8) (i := t_84) s rfl rfl underlying35 rfl hep105 rfl (lt_of_get hx89)) fun a s => ?_
   refine nq 6 0 s hR rfl (by kernel_rfl) rfl rfl rfl (y_ptrField (o' := 2) s rfl underlying94 rfl rfl rfl) fun a s => ?_
   refine nq 7 0 s hR rfl (by kernel_rfl) rfl rfl rfl (y_ptrField (o' := 2) s rfl underlying62 rfl rfl rfl) fun a s => ?_
   obtain ⟨hlq106, hmq106, csq106, hdq106, hcq106⟩ := hpp105
   obtain ⟨Aq1062, cq1062, Aq1066, cq1066, Aq1067, cq1067, Aq1068, cq1068, rfl, hq1062, lq1063, lq1065, hq1066, hq1067, hq1068⟩ := RLexDecl.open hdq106
   replace s := s.ns 150 hq1062
   replace s := s.ns 151 hq1066
   replace s := s.ns 152 hq1067
   replace s := s.ns 153 hq1068
   refine nq 8 0 s hR rfl (by kernel_rfl) rfl rfl rfl (y_ldp1 s rfl hlq106 hmq106 (hcq106 2 _ rfl) underlying9 rfl) fun a s => ?_
   refine nq 9 0 s hR rfl (by kernel_rfl) rfl rfl rfl (y_concat s rfl rfl hk91) fun a s => ?_
   refine nq 10 0 s hR rfl (by kernel_rfl) rfl rfl rfl (y_concat s rfl rfl hk92) fun a s => ?_
   refine nq 11 0 s hR rfl (by kernel_rfl) rfl rfl rfl (y_boxField (o' := 5) s rfl underlying38 rfl rfl rfl) fun a s => ?_
   refine nq 12 1000 s hR rfl (by kernel_rfl) rfl rfl rfl (y_loadBox1 (kk := 1000) s rfl rfl rfl underlying35 rfl) fun a s => ?_
   refine nq 13 0 s hR rfl (by kernel_rfl) rfl rfl rfl (y_move s rfl) fun a s => ?_
   obtain ⟨p107, hep107, hpp107⟩ := SlR.elemX (s.ft 105 rfl) hx89
   refine nq 14 0 s hR rfl (by kernel_rfl) rfl rfl rfl (y_elem (sz := 8) (i := t_84) s rfl rfl underlying35 rfl hep107 rfl (lt_of_get hx89)) fun a s => ?_
   refine nq 15 0 s hR rfl (by kernel_rfl) rfl rfl rfl (y_ptrField (o' := 0) s rfl underlying94 rfl rfl rfl) fun a s => ?_
   obtain ⟨hlq108, hmq108, csq108, hdq108, hcq108⟩ := hpp107
   obtain ⟨Aq1082, cq1082, Aq1086, cq1086, Aq1087, cq1087, Aq1088, cq1088, rfl, hq1082, lq1083, lq1085, hq1086, hq1087, hq1088⟩ := RLexDecl.open hdq108
   replace s := s.ns 154 hq1082
   replace s := s.ns 155 hq1086
   replace s := s.ns 156 hq1087
   replace s := s.ns 157 hq1088
   refine nq 16 0 s hR rfl (by kernel_rfl) rfl rfl rfl (y_ldp (cs := [vI x89.Affix.Kind, sl Aq1082 x89.Affix.Pairs cq1082]) s rfl hlq108 hmq108 (fun j v hj => hcq108 (0 + j) v (by rcases j with _ | (_ | _) <;> first | exact hj | cases hj)) underlying92 rfl rfl) fun a s => ?_
   refine nq 19 0 s hR rfl (by kernel_rfl) rfl rfl rfl (y_boxField (o' := 5) s rfl underlying38 rfl rfl rfl) fun a s => ?_
   refine nq 20 1000 s hR rfl (by kernel_rfl) rfl rfl rfl (y_loadBox1 (kk := 1000) s rfl rfl rfl underlying35 rfl) fun a s => ?_
   refine nq 21 0 s hR rfl (by kernel_rfl) rfl rfl rfl (y_move s rfl) fun a s => ?_
   obtain ⟨p109, hep109, hpp109⟩ := SlR.elemX (s.ft 105 rfl) hx89
   refine nq 22 0 s hR rfl (by kernel_rfl) rfl rfl rfl (y_elem (sz := 8) (i := t_84) s rfl rfl underlying35 rfl hep109 rfl (lt_of_get hx89)) fun a s => ?_
   refine nq 23 0 s hR rfl (by kernel_rfl) rfl rfl rfl (y_ptrField (o' := 2) s rfl underlying94 rfl rfl rfl) fun a s => ?_
   obtain ⟨hlq110, hmq110, csq110, hdq110, hcq110⟩ := hpp109
   obtain ⟨Aq1102, cq1102, Aq1106, cq1106, Aq1107, cq1107, Aq1108, cq1108, rfl, hq1102, lq1103, lq1105, hq1106, hq1107, hq1108⟩ := RLexDecl.open hdq110
   replace s := s.ns 158 hq1102
   replace s := s.ns 159 hq1106
   replace s := s.ns 160 hq1107
   replace s := s.ns 161 hq1108
   refine nq 24 0 s hR rfl (by kernel_rfl) rfl rfl rfl (y_ldp (cs := [vT x89.Def.Name, vI x89.Def.Strict.Op, vT x89.Def.Strict.Name, sl Aq1106 x89.Def.Strict.Path cq1106, sl Aq1107 x89.Def.Strict.Kids cq1107, sl Aq1108 x89.Def.Defaults cq1108]) s rfl hlq110 hmq110 (fun j v hj => hcq110 (2 + j) v (by rcases j with _ | (_ | (_ | (_ | (_ | (_ | _))))) <;> first | exact hj | cases hj)) underlying62 rfl rfl) fun a s => ?_
   refine n_1 17 s (by kernel_rfl) rfl rfl (l_call (cap := []) s rfl func90 rfl (by kernel_rfl) rfl rfl (c_r21_affixed n _ _ s.lt _ _ _ (s.ft 154 rfl) _ hr95) fun v111 a w hK hp s => ?_)
   replace hZ := Nat.le_trans hZ hK.size; refine ⟨fun g _ h => h.grow hK, ?_⟩; clear hK
   obtain ⟨rfl, lu112a1⟩ := hp
   refine n_2 18 25 s (by kernel_rfl) rfl rfl rfl rfl ?_ ?_
   ·refine l_quiet s rfl rfl (y_concat s rfl rfl hk98) fun a s => ?_; refine ⟨fun g _ h => h, ?_⟩
    refine n_1 25 s (by kernel_rfl) rfl rfl (l_call (cap := []) s rfl func89 rfl (by kernel_rfl) rfl rfl (c_r21_defined n _ _ s.lt _ _ _ _ _ _ _ (by omega) (by omega) (s.ft 159 rfl) (s.ft 160 rfl) (s.ft 161 rfl) _ hr101) fun v113 a w hK hp s => ?_)
    replace hZ := Nat.le_trans hZ hK.size; refine ⟨fun g _ h => h.grow hK, ?_⟩; clear hK
    obtain ⟨rfl, lu114a1⟩ := hp
    refine n_1 26 s (by kernel_rfl) rfl rfl (l_quiet s rfl rfl (y_concat s rfl rfl hk104) fun a s => ?_); refine ⟨fun g _ h => h, ?_⟩
    refine n_1 27 s (by kernel_rfl) rfl rfl (l_quiet s rfl rfl (y_assign s rfl) fun a s => ?_); refine ⟨fun g _ h => h, ?_⟩
    refine n_end (by kernel_rfl) ?_; clear hR hZ
    refine p_inN ?_
    apply pN
    apply wL
    refine mv s rfl rfl fun a s => ?_
    refine qq s rfl (y_addN (i := t_84) (j := 1) s rfl rfl (in64.2 (by omega))) fun a s => ?_
    refine asg s rfl rfl fun a s => ?_
    apply wN
    exact ⟨m4, Nat.lt_succ_self _, ⟨(((((t_83 ++ [108, 101, 120, 114, 117, 108, 101, 32]) ++ x89.Def.Name) ++ [32]) ++ r95) ++ r101), (t_84 + 1), hg, (by rw [List.length_append]; omega), (s.sb rfl rfl rfl)⟩⟩
   ·refine l_call (cap := []) s rfl func89 rfl (by kernel_rfl) rfl rfl (c_r21_defined n _ _ s.lt _ _ _ _ _ _ _ (by omega) (by omega) (s.ft 159 rfl) (s.ft 160 rfl) (s.ft 161 rfl) _ hr101) fun v115 a w hK hp s => ?_
    replace hZ := Nat.le_trans hZ hK.size; refine ⟨fun g _ h => h.grow hK, ?_⟩; clear hK
    obtain ⟨rfl, lu116a1⟩ := hp
    refine n_1 18 s (by kernel_rfl) rfl rfl (l_quiet s rfl rfl (y_concat s rfl rfl hk98) fun a s => ?_); refine ⟨fun g _ h => h, ?_⟩
    refine n_1 26 s (by kernel_rfl) rfl rfl (l_quiet s rfl rfl (y_concat s rfl rfl hk104) fun a s => ?_); refine ⟨fun g _ h => h, ?_⟩
    refine n_1 27 s (by kernel_rfl) rfl rfl (l_quiet s rfl rfl (y_assign s rfl) fun a s => ?_); refine ⟨fun g _ h => h, ?_⟩
    refine n_end (by kernel_rfl) ?_; clear hR hZ
    refine p_inN ?_
    apply pN
    apply wL
    refine mv s rfl rfl fun a s => ?_
    refine qq s rfl (y_addN (i := t_84) (j := 1) s rfl rfl (in64.2 (by omega))) fun a s => ?_
    refine asg s rfl rfl fun a s => ?_
    apply wN
    exact ⟨m4, Nat.lt_succ_self _, ⟨(((((t_83 ++ [108, 101, 120, 114, 117, 108, 101, 32]) ++ x89.Def.Name) ++ [32]) ++ r95) ++ r101), (t_84 + 1), hg, (by rw [List.length_append]; omega), (s.sb rfl rfl rfl)⟩⟩
  replace hg := br_f hg hc85
  apply wp_exit
  refine p_then ?_
  refine p_then ?_
  refine p_in ?_
  apply pN
  exact ⟨(t_83), hg, (by omega), (s.sb rfl rfl rfl)⟩
 clear s a; rintro a w ⟨t_82, hg, lt_82, s⟩
 subst hk81
 apply wQ
 obtain ⟨k117, hg, hk117⟩ := jn_some hg
 refine c_post (fun a w => ∃ (t_118 : (List UInt8)), k117 t_118 = some r ∧ ((t_118).length ≤ 9223372036854775807) ∧ St (cx f54 M w0) [(1, vP b2 0), (3, vT t_118)] [(1000, Ob.box b2 [vT t_.Name, sl Ap02 t_.Imports cp02, sl Ap03 t_.Types cp03, sl Ap04 t_.Templates cp04, sl Ap05 t_.Entries cp05, sl Ap06 t_.LexRules cp06, sl Ap07 t_.Rules cp07, sl Ap08 t_.Roots cp08, sl Ap09 t_.Checks cp09, sl Ap010 t_.Drops cp010] 38)] [(101, sF Rep.str Ap02 cp02 t_.Imports), (102, sF RTypeDecl Ap03 cp03 t_.Types), (103, sF RDef Ap04 cp04 t_.Templates), (104, sF REntryDecl Ap05 cp05 t_.Entries), (105, sF RLexDecl Ap06 cp06 t_.LexRules), (106, sF RDef Ap07 cp07 t_.Rules), (107, sF RDef Ap08 cp08 t_.Roots), (108, sF (Rep.list Rep.str) Ap09 cp09 t_.Checks), (109, sF Rep.str Ap010 cp010 t_.Drops)] a w) ?_ ?_
 ·obtain ⟨r119, hr119, hg⟩ := bind_some hg
  obtain ⟨hk122, hg⟩ := chk_some hg
  obtain ⟨r123, hr123, hg⟩ := bind_some hg
  obtain ⟨hk126, hg⟩ := chk_some hg
  refine d_steps s [] rfl ?_; clear s; intro wr hZ s; have hR := s.wd
  refine nq 0 0 s hR rfl (by kernel_rfl) rfl rfl rfl (y_move s rfl) fun a s => ?_
  refine nq 1 0 s hR rfl (by kernel_rfl) rfl rfl rfl (y_boxField (o' := 6) s rfl underlying38 rfl rfl rfl) fun a s => ?_
  refine nq 2 1000 s hR rfl (by kernel_rfl) rfl rfl rfl (y_loadBox1 (kk := 1000) s rfl rfl rfl underlying33 rfl) fun a s => ?_
  refine nq 5 0 s hR rfl (by kernel_rfl) rfl rfl rfl (y_boxField (o' := 7) s rfl underlying38 rfl rfl rfl) fun a s => ?_
  refine nq 6 1000 s hR rfl (by kernel_rfl) rfl rfl rfl (y_loadBox1 (kk := 1000) s rfl rfl rfl underlying33 rfl) fun a s => ?_
  refine n_1 3 s (by kernel_rfl) rfl rfl (l_call (cap := []) s rfl func87 rfl (by kernel_rfl) rfl rfl (c_r21_defs n _ _ s.lt _ (Nat.le_of_ble_eq_true (by rfl)) _ _ _ (s.ft 106 rfl) _ hr119) fun v127 a w hK hp s => ?_)
  replace hZ := Nat.le_trans hZ hK.size; refine ⟨fun g _ h => h.grow hK, ?_⟩; clear hK
  obtain ⟨rfl, lu128a1⟩ := hp
  refine n_2 4 7 s (by kernel_rfl) rfl rfl rfl rfl ?_ ?_
  ·refine l_quiet s rfl rfl (y_concat s rfl rfl hk122) fun a s => ?_; refine ⟨fun g _ h => h, ?_⟩
   refine n_1 7 s (by kernel_rfl) rfl rfl (l_call (cap := []) s rfl func87 rfl (by kernel_rfl) rfl rfl (c_r21_defs n _ _ s.lt _ (Nat.le_of_ble_eq_true (by rfl)) _ _ _ (s.ft 107 rfl) _ hr123) fun v129 a w hK hp s => ?_)
   replace hZ := Nat.le_trans hZ hK.size; refine ⟨fun g _ h => h.grow hK, ?_⟩; clear hK
   obtain ⟨rfl, lu130a1⟩ := hp
   refine n_1 8 s (by kernel_rfl) rfl rfl (l_quiet s rfl rfl (y_concat s rfl rfl hk126) fun a s => ?_); refine ⟨fun g _ h => h, ?_⟩
   refine n_1 9 s (by kernel_rfl) rfl rfl (l_quiet s rfl rfl (y_assign s rfl) fun a s => ?_); refine ⟨fun g _ h => h, ?_⟩
   refine n_end (by kernel_rfl) ?_; clear hR hZ
   apply pN
   exact ⟨((t_82 ++ r119) ++ r123), hg, (by rw [List.length_append]; omega), (s.sb rfl rfl rfl)⟩
  ·refine l_call (cap := []) s rfl func87 rfl (by kernel_rfl) rfl rfl (c_r21_defs n _ _ s.lt _ (Nat.le_of_ble_eq_true (by rfl)) _ _ _ (s.ft 107 rfl) _ hr123) fun v131 a w hK hp s => ?_
   replace hZ := Nat.le_trans hZ hK.size; refine ⟨fun g _ h => h.grow hK, ?_⟩; clear hK
   obtain ⟨rfl, lu132a1⟩ := hp
   refine n_1 4 s (by kernel_rfl) rfl rfl (l_quiet s rfl rfl (y_concat s rfl rfl hk122) fun a s => ?_); refine ⟨fun g _ h => h, ?_⟩
   refine n_1 8 s (by kernel_rfl) rfl rfl (l_quiet s rfl rfl (y_concat s rfl rfl hk126) fun a s => ?_); refine ⟨fun g _ h => h, ?_⟩
   refine n_1 9 s (by kernel_rfl) rfl rfl (l_quiet s rfl rfl (y_assign s rfl) fun a s => ?_); refine ⟨fun g _ h => h, ?_⟩
   refine n_end (by kernel_rfl) ?_; clear hR hZ
   apply pN
   exact ⟨((t_82 ++ r119) ++ r123), hg, (by rw [List.length_append]; omega), (s.sb rfl rfl rfl)⟩
 clear s a; rintro a w ⟨t_118, hg, lt_118, s⟩
 subst hk117
 apply wQ
 apply wR
 refine asg s rfl rfl fun a s => ?_
 apply wN
 obtain ⟨k133, hg, hk133⟩ := jn_some hg
 refine c_post (fun a w => ∃ (t_134 : (List UInt8)), k133 t_134 = some r ∧ ((t_134).length ≤ 9223372036854775807) ∧ St (cx f54 M w0) [(1, vP b2 0), (3, vT t_134)] [(1000, Ob.box b2 [vT t_.Name, sl Ap02 t_.Imports cp02, sl Ap03 t_.Types cp03, sl Ap04 t_.Templates cp04, sl Ap05 t_.Entries cp05, sl Ap06 t_.LexRules cp06, sl Ap07 t_.Rules cp07, sl Ap08 t_.Roots cp08, sl Ap09 t_.Checks cp09, sl Ap010 t_.Drops cp010] 38)] [(101, sF Rep.str Ap02 cp02 t_.Imports), (102, sF RTypeDecl Ap03 cp03 t_.Types), (103, sF RDef Ap04 cp04 t_.Templates), (104, sF REntryDecl Ap05 cp05 t_.Entries), (105, sF RLexDecl Ap06 cp06 t_.LexRules), (106, sF RDef Ap07 cp07 t_.Rules), (107, sF RDef Ap08 cp08 t_.Roots), (108, sF (Rep.list Rep.str) Ap09 cp09 t_.Checks), (109, sF Rep.str Ap010 cp010 t_.Drops)] a w) ?_ ?_
 ·apply wp_block
  refine c_loop (σ := Nat) (fun m5 a w => ∃ (t_135 : (List UInt8)) (t_136 : Nat), r21_module_L4 n t_ k133 m5 t_135 t_136 = some r ∧ ((t_135).length ≤ 9223372036854775807) ∧ St (cx f54 M w0) [(1, vP b2 0), (3, vT t_135), (8, vI (((t_136 : Nat) : Int)))] [(1000, Ob.box b2 [vT t_.Name, sl Ap02 t_.Imports cp02, sl Ap03 t_.Types cp03, sl Ap04 t_.Templates cp04, sl Ap05 t_.Entries cp05, sl Ap06 t_.LexRules cp06, sl Ap07 t_.Rules cp07, sl Ap08 t_.Roots cp08, sl Ap09 t_.Checks cp09, sl Ap010 t_.Drops cp010] 38)] [(101, sF Rep.str Ap02 cp02 t_.Imports), (102, sF RTypeDecl Ap03 cp03 t_.Types), (103, sF RDef Ap04 cp04 t_.Templates), (104, sF REntryDecl Ap05 cp05 t_.Entries), (105, sF RLexDecl Ap06 cp06 t_.LexRules), (106, sF RDef Ap07 cp07 t_.Rules), (107, sF RDef Ap08 cp08 t_.Roots), (108, sF (Rep.list Rep.str) Ap09 cp09 t_.Checks), (109, sF Rep.str Ap010 cp010 t_.Drops)] a w) (fun m5 => m5) n ⟨(t_118), (0), hg, (by omega), (s.sb rfl rfl rfl)⟩ ?_
  clear s a; rintro m5 a w ⟨t_135, t_136, hg, lt_135, s⟩
  rcases m5 with _ | m5
  ·rw [r21_module_L4] at hg; cases hg
  rw [r21_module_L4] at hg
  apply wQ
  apply wR
  refine mv s rfl rfl fun a s => ?_
  refine qq s rfl (y_boxField (o' := 8) s rfl underlying38 rfl rfl rfl) fun a s => ?_
  refine qq s rfl (y_loadBox1 (kk := 1000) s rfl rfl rfl underlying36 rfl) fun a s => ?_
  refine qq s rfl (y_lenSlice s rfl underlying36) fun a s => ?_
  refine qq s rfl (y_lssN (i := t_136) (j := ((t_.Checks).length)) s rfl rfl) fun a s => ?_
  apply wN
  refine c_dec s rfl (fun hc137 => ?_) (fun hc137 => ?_)
  ·replace hg := br_t hg hc137
   have hmx138 := SlR.mx (s.ft 108 rfl)
   apply wp_skip
   apply pN
   apply wQ
   apply wp_block
   obtain ⟨hk139, hg⟩ := chk_some hg
   obtain ⟨x141, hx141, hg⟩ := bind_some hg
   obtain ⟨r143, hr143, hg⟩ := bind_some hg
   obtain ⟨hk146, hg⟩ := chk_some hg
   obtain ⟨hk147, hg⟩ := chk_some hg
   apply wL
   refine mv s rfl rfl fun a s => ?_
   refine qq s rfl (y_concat s rfl rfl hk139) fun a s => ?_
   refine qq s rfl (y_boxField (o' := 8) s rfl underlying38 rfl rfl rfl) fun a s => ?_
   refine qq s rfl (y_loadBox1 (kk := 1000) s rfl rfl rfl underlying36 rfl) fun a s => ?_
   refine mv s rfl rfl fun a s => ?_
   obtain ⟨p148, hep148, hpp148⟩ := SlR.elemX (s.ft 108 rfl) hx141
   refine qq s rfl (y_elem (sz := 1) (i := t_136) s rfl rfl underlying36 rfl hep148 rfl (lt_of_get hx141)) fun a s => ?_
   obtain ⟨hlq149, hmq149, csq149, hdq149, hcq149⟩ := hpp148
   obtain ⟨Aq1491, nnq149, cq1491, rfl, hq1491⟩ := hdq149
   obtain rfl := hq1491.len
   replace s := s.ns 163 hq1491
   refine qq s rfl (y_ldp1 s rfl hlq149 hmq149 (hcq149 0 _ rfl) underlying25 rfl) fun a s => ?_
   refine lc s rfl func88 (by kernel_rfl) (c_r21_joined n _ _ s.lt _ _ _ (s.ft 163 rfl) _ (Nat.le_of_ble_eq_true (by rfl)) _ hr143) fun v150 a w hK hp s => ?_
   obtain ⟨rfl, lu151a1⟩ := hp
   refine qq s rfl (y_concat s rfl rfl hk146) fun a s => ?_
   refine qq s rfl (y_concat s rfl rfl hk147) fun a s => ?_
   refine asg s rfl rfl fun a s => ?_
   apply wO
   refine p_inN ?_
   apply pN
   apply wL
   refine mv s rfl rfl fun a s => ?_
   refine qq s rfl (y_addN (i := t_136) (j := 1) s rfl rfl (in64.2 (by omega))) fun a s => ?_
   refine asg s rfl rfl fun a s => ?_
   apply wN
   exact ⟨m5, Nat.lt_succ_self _, ⟨(((t_135 ++ [99, 104, 101, 99, 107, 32]) ++ r143) ++ [59, 10]), (t_136 + 1), hg, (by rw [List.length_append]; omega), (s.sb rfl rfl rfl)⟩⟩
  replace hg := br_f hg hc137
  apply wp_exit
  refine p_then ?_
  refine p_then ?_
  refine p_in ?_
  apply pN
  exact ⟨(t_135), hg, (by omega), (s.sb rfl rfl rfl)⟩
 clear s a; rintro a w ⟨t_134, hg, lt_134, s⟩
 subst hk133
 apply wQ
 apply wR
 refine asg s rfl rfl fun a s => ?_
 apply wN
 apply wp_block
 refine c_loop (σ := Nat) (fun m6 a w => ∃ (t_152 : (List UInt8)) (t_153 : Nat), r21_module_L5 n t_ m6 t_152 t_153 = some r ∧ ((t_152).length ≤ 9223372036854775807) ∧ St (cx f54 M w0) [(1, vP b2 0), (3, vT t_152), (9, vI (((t_153 : Nat) : Int)))] [(1000, Ob.box b2 [vT t_.Name, sl Ap02 t_.Imports cp02, sl Ap03 t_.Types cp03, sl Ap04 t_.Templates cp04, sl Ap05 t_.Entries cp05, sl Ap06 t_.LexRules cp06, sl Ap07 t_.Rules cp07, sl Ap08 t_.Roots cp08, sl Ap09 t_.Checks cp09, sl Ap010 t_.Drops cp010] 38)] [(101, sF Rep.str Ap02 cp02 t_.Imports), (102, sF RTypeDecl Ap03 cp03 t_.Types), (103, sF RDef Ap04 cp04 t_.Templates), (104, sF REntryDecl Ap05 cp05 t_.Entries), (105, sF RLexDecl Ap06 cp06 t_.LexRules), (106, sF RDef Ap07 cp07 t_.Rules), (107, sF RDef Ap08 cp08 t_.Roots), (108, sF (Rep.list Rep.str) Ap09 cp09 t_.Checks), (109, sF Rep.str Ap010 cp010 t_.Drops)] a w) (fun m6 => m6) n ⟨(t_134), (0), hg, (by omega), (s.sb rfl rfl rfl)⟩ ?_
 clear s a; rintro m6 a w ⟨t_152, t_153, hg, lt_152, s⟩
 rcases m6 with _ | m6
 ·rw [r21_module_L5] at hg; cases hg
 rw [r21_module_L5] at hg
 apply wQ
 apply wR
 refine mv s rfl rfl fun a s => ?_
 refine qq s rfl (y_boxField (o' := 9) s rfl underlying38 rfl rfl rfl) fun a s => ?_
 refine qq s rfl (y_loadBox1 (kk := 1000) s rfl rfl rfl underlying25 rfl) fun a s => ?_
 refine qq s rfl (y_lenSlice s rfl underlying25) fun a s => ?_
 refine qq s rfl (y_lssN (i := t_153) (j := ((t_.Drops).length)) s rfl rfl) fun a s => ?_
 apply wN
 refine c_dec s rfl (fun hc154 => ?_) (fun hc154 => ?_)
 ·replace hg := br_t hg hc154
  have hmx155 := SlR.mx (s.ft 109 rfl)
  apply wp_skip
  apply pN
  apply wQ
  apply wp_block
  obtain ⟨hk156, hg⟩ := chk_some hg
  obtain ⟨x158, hx158, hg⟩ := bind_some hg
  obtain ⟨hk160, hg⟩ := chk_some hg
  obtain ⟨hk161, hg⟩ := chk_some hg
  apply wL
  refine mv s rfl rfl fun a s => ?_
  refine qq s rfl (y_concat s rfl rfl hk156) fun a s => ?_
  refine qq s rfl (y_boxField (o' := 9) s rfl underlying38 rfl rfl rfl) fun a s => ?_
  refine qq s rfl (y_loadBox1 (kk := 1000) s rfl rfl rfl underlying25 rfl) fun a s => ?_
  refine mv s rfl rfl fun a s => ?_
  obtain ⟨p162, hep162, hpp162⟩ := SlR.elemX (s.ft 109 rfl) hx158
  refine qq s rfl (y_elem (sz := 1) (i := t_153) s rfl rfl underlying25 rfl hep162 rfl (lt_of_get hx158)) fun a s => ?_
  obtain ⟨hlq163, hmq163, csq163, hdq163, hcq163⟩ := hpp162
  obtain ⟨rfl, lq1631⟩ := hdq163
  refine qq s rfl (y_ldp1 s rfl hlq163 hmq163 (hcq163 0 _ rfl) underlying9 rfl) fun a s => ?_
  refine qq s rfl (y_concat s rfl rfl hk160) fun a s => ?_
  refine qq s rfl (y_concat s rfl rfl hk161) fun a s => ?_
  refine asg s rfl rfl fun a s => ?_
  apply wO
  refine p_inN ?_
  apply pN
  apply wL
  refine mv s rfl rfl fun a s => ?_
  refine qq s rfl (y_addN (i := t_153) (j := 1) s rfl rfl (in64.2 (by omega))) fun a s => ?_
  refine asg s rfl rfl fun a s => ?_
  apply wN
  exact ⟨m6, Nat.lt_succ_self _, ⟨(((t_152 ++ [100, 114, 111, 112, 32]) ++ x158) ++ [59, 10]), (t_153 + 1), hg, (by rw [List.length_append]; omega), (s.sb rfl rfl rfl)⟩⟩
 replace hg := br_f hg hc154
 apply wp_exit
 refine p_then ?_
 refine p_then ?_
 refine p_in ?_
 apply pN
 apply wR
 refine mv s rfl rfl fun a s => ?_
 refine asg s rfl rfl fun a s => ?_
 apply wN
 apply wp_ret
 obtain rfl := Option.some.inj hg
 refine fin1 (fn := Tryz.f54) s rfl (r_tmp s rfl) ?_
 exact ⟨rfl, (by omega)⟩
set_option maxHeartbeats 1000000 in
theorem c_r21_Print (n : Nat) (M : Bs) (w0 : World) (hM : ∀ b, M b → b < w0.heap.size) (l_ : (List Module)) (Ap01 : Option Addr) (cp01 : Nat) (hp01 : SlR RModule M w0 Ap01 (l_).length cp01 (l_)) (r : ((List UInt8) × Int)) (hg : r21_Print n l_ = some r) :
    Calls Tryz.prog 23 [.slice (Ap01) ((l_).length) (cp01)].toArray w0 (Ret noB w0 fun v w => v = .tuple #[.string (bs (r.1)), .int .i64 (r.2)] ∧ ((r.1).length ≤ 9223372036854775807)) := by
 unfold r21_Print at hg
 refine enter M noB func23 rfl rfl hM ?_
 intro a s
 replace s := s.es 101 hp01
 apply wR
 refine asg s rfl rfl fun a s => ?_
 refine asg s rfl rfl fun a s => ?_
 apply wN
 apply wQ
 apply wR
 refine mv s rfl rfl fun a s => ?_
 refine qq s rfl (y_lenSlice s rfl underlying22) fun a s => ?_
 refine qq s rfl (y_gtrN (i := ((l_).length)) (j := 256) s rfl rfl) fun a s => ?_
 apply wN
 refine c_dec s rfl (fun hc1 => ?_) (fun hc1 => ?_)
 ·replace hg := br_t hg hc1
  have hmx2 := SlR.mx (s.ft 101 rfl)
  apply wR
  refine asg s rfl rfl fun a s => ?_
  refine asg s rfl rfl fun a s => ?_
  apply wN
  apply wp_ret
  refine p_thenR ?_
  obtain rfl := Option.some.inj hg
  refine fin2 (fn := Tryz.f23) s rfl (r_tmp s rfl) (r_tmp s rfl) ?_
  exact ⟨rfl, (Nat.le_of_ble_eq_true (by rfl))⟩
 replace hg := br_f hg hc1
 apply wp_skip
 apply pN
 apply wR
 refine asg s rfl rfl fun a s => ?_
 apply wN
 apply wQ
 apply wR
 refine asg s rfl rfl fun a s => ?_
 apply wN
 obtain ⟨k3, hg, hk3⟩ := jn_some hg
 refine c_post (fun a w => k3 = some r ∧ St (cx f23 M w0) [(0, sl Ap01 l_ cp01), (4, vT ([]))] [] [(101, sF RModule Ap01 cp01 l_)] a w) ?_ ?_
 ·apply wp_block
  refine c_loop (σ := Nat) (fun m1 a w => ∃ (i_4 : Nat), r21_Print_L0 n l_ k3 m1 i_4 = some r ∧ St (cx f23 M w0) [(0, sl Ap01 l_ cp01), (4, vT ([])), (5, vI (((i_4 : Nat) : Int)))] [] [(101, sF RModule Ap01 cp01 l_)] a w) (fun m1 => m1) n ⟨(0), hg, (s.sb rfl rfl rfl)⟩ ?_
  clear s a; rintro m1 a w ⟨i_4, hg, s⟩
  rcases m1 with _ | m1
  ·rw [r21_Print_L0] at hg; cases hg
  rw [r21_Print_L0] at hg
  apply wQ
  apply wR
  refine mv s rfl rfl fun a s => ?_
  refine mv s rfl rfl fun a s => ?_
  refine qq s rfl (y_lenSlice s rfl underlying22) fun a s => ?_
  refine qq s rfl (y_lssN (i := i_4) (j := ((l_).length)) s rfl rfl) fun a s => ?_
  apply wN
  refine c_dec s rfl (fun hc5 => ?_) (fun hc5 => ?_)
  ·replace hg := br_t hg hc5
   have hmx6 := SlR.mx (s.ft 101 rfl)
   apply wp_skip
   apply pN
   apply wQ
   apply wp_block
   apply wQ
   obtain ⟨x8, hx8, hg⟩ := bind_some hg
   obtain ⟨r10, hr10, hg⟩ := bind_some hg
   apply wL
   refine mv s rfl rfl fun a s => ?_
   refine mv s rfl rfl fun a s => ?_
   obtain ⟨p13, hep13, hpp13⟩ := SlR.elemX (s.ft 101 rfl) hx8
   refine qq s rfl (y_elem (sz := 10) (i := i_4) s rfl rfl underlying22 rfl hep13 rfl (lt_of_get hx8)) fun a s => ?_
   obtain ⟨hlq14, hmq14, csq14, hdq14, hcq14⟩ := hpp13
   obtain ⟨Aq142, cq142, Aq143, cq143, Aq144, cq144, Aq145, cq145, Aq146, cq146, Aq147, cq147, Aq148, cq148, Aq149, cq149, Aq1410, cq1410, rfl, lq141, hq142, hq143, hq144, hq145, hq146, hq147, hq148, hq149, hq1410⟩ := RModule.open hdq14
   replace s := s.ns 111 hq142
   replace s := s.ns 112 hq143
   replace s := s.ns 113 hq144
   replace s := s.ns 114 hq145
   replace s := s.ns 115 hq146
   replace s := s.ns 116 hq147
   replace s := s.ns 117 hq148
   replace s := s.ns 118 hq149
   replace s := s.ns 119 hq1410
   refine qq s rfl (y_ldp s rfl hlq14 hmq14 (by simpa using hcq14) underlying38 rfl rfl) fun a s => ?_
   refine lc s rfl func53 (by kernel_rfl) (c_r21_moduleError n _ _ s.lt _ _ _ _ _ _ _ _ _ _ _ _ _ _ _ _ _ _ _ (by omega) (s.ft 111 rfl) (s.ft 112 rfl) (s.ft 113 rfl) (s.ft 114 rfl) (s.ft 115 rfl) (s.ft 116 rfl) (s.ft 117 rfl) (s.ft 118 rfl) (s.ft 119 rfl) _ hr10) fun v15 a w hK hp s => ?_
   obtain rfl := hp
   refine asg s rfl rfl fun a s => ?_
   apply wN
   apply wR
   refine mv s rfl rfl fun a s => ?_
   refine qq s rfl (y_neq s rfl rfl) fun a s => ?_
   apply wN
   refine c_dec s rfl (fun hc17 => ?_) (fun hc17 => ?_)
   ·replace hg := br_t hg hc17
    apply wR
    refine mv s rfl rfl fun a s => ?_
    refine asg s rfl rfl fun a s => ?_
    refine asg s rfl rfl fun a s => ?_
    apply wN
    apply wp_ret
    refine p_inR ?_
    refine p_thenR ?_
    refine p_thenR ?_
    refine p_inR ?_
    refine p_thenR ?_
    obtain rfl := Option.some.inj hg
    refine fin2 (fn := Tryz.f23) s rfl (r_tmp s rfl) (r_tmp s rfl) ?_
    exact ⟨rfl, (Nat.le_of_ble_eq_true (by rfl))⟩
   replace hg := br_f hg hc17
   apply wp_skip
   refine p_inN ?_
   apply pN
   apply wL
   refine mv s rfl rfl fun a s => ?_
   refine qq s rfl (y_addN (i := i_4) (j := 1) s rfl rfl (in64.2 (by omega))) fun a s => ?_
   refine asg s rfl rfl fun a s => ?_
   apply wN
   exact ⟨m1, Nat.lt_succ_self _, ⟨(i_4 + 1), hg, (s.sb rfl rfl rfl)⟩⟩
  replace hg := br_f hg hc5
  apply wp_exit
  refine p_then ?_
  refine p_then ?_
  refine p_in ?_
  apply pN
  exact ⟨hg, (s.sb rfl rfl rfl)⟩
 clear s a; rintro a w ⟨hg, s⟩
 subst hk3
 apply wQ
 apply wR
 refine asg s rfl rfl fun a s => ?_
 apply wN
 obtain ⟨k18, hg, hk18⟩ := jn_some hg
 refine c_post (fun a w => ∃ (s_19 : (List UInt8)), k18 s_19 = some r ∧ ((s_19).length ≤ 9223372036854775807) ∧ St (cx f23 M w0) [(4, vT s_19)] [] [] a w) ?_ ?_
 ·apply wp_block
  refine c_loop (σ := Nat) (fun m2 a w => ∃ (s_20 : (List UInt8)) (i_21 : Nat), r21_Print_L1 n l_ k18 m2 s_20 i_21 = some r ∧ ((s_20).length ≤ 9223372036854775807) ∧ St (cx f23 M w0) [(0, sl Ap01 l_ cp01), (4, vT s_20), (7, vI (((i_21 : Nat) : Int)))] [] [(101, sF RModule Ap01 cp01 l_)] a w) (fun m2 => m2) n ⟨([]), (0), hg, (Nat.le_of_ble_eq_true (by rfl)), (s.sb rfl rfl rfl)⟩ ?_
  clear s a; rintro m2 a w ⟨s_20, i_21, hg, ls_20, s⟩
  rcases m2 with _ | m2
  ·rw [r21_Print_L1] at hg; cases hg
  rw [r21_Print_L1] at hg
  apply wQ
  apply wR
  refine mv s rfl rfl fun a s => ?_
  refine mv s rfl rfl fun a s => ?_
  refine qq s rfl (y_lenSlice s rfl underlying22) fun a s => ?_
  refine qq s rfl (y_lssN (i := i_21) (j := ((l_).length)) s rfl rfl) fun a s => ?_
  apply wN
  refine c_dec s rfl (fun hc22 => ?_) (fun hc22 => ?_)
  ·replace hg := br_t hg hc22
   have hmx23 := SlR.mx (s.ft 101 rfl)
   apply wp_skip
   apply pN
   apply wQ
   apply wp_block
   obtain ⟨x25, hx25, hg⟩ := bind_some hg
   obtain ⟨r27, hr27, hg⟩ := bind_some hg
   obtain ⟨hk30, hg⟩ := chk_some hg
   apply wL
   refine mv s rfl rfl fun a s => ?_
   refine mv s rfl rfl fun a s => ?_
   refine mv s rfl rfl fun a s => ?_
   obtain ⟨p31, hep31, hpp31⟩ := SlR.elemX (s.ft 101 rfl) hx25
   refine qq s rfl (y_elem (sz := 10) (i := i_21) s rfl rfl underlying22 rfl hep31 rfl (lt_of_get hx25)) fun a s => ?_
   obtain ⟨hlq32, hmq32, csq32, hdq32, hcq32⟩ := hpp31
   obtain ⟨Aq322, cq322, Aq323, cq323, Aq324, cq324, Aq325, cq325, Aq326, cq326, Aq327, cq327, Aq328, cq328, Aq329, cq329, Aq3210, cq3210, rfl, lq321, hq322, hq323, hq324, hq325, hq326, hq327, hq328, hq329, hq3210⟩ := RModule.open hdq32
   replace s := s.ns 129 hq322
   replace s := s.ns 130 hq323
   replace s := s.ns 131 hq324
   replace s := s.ns 132 hq325
   replace s := s.ns 133 hq326
   replace s := s.ns 134 hq327
   replace s := s.ns 135 hq328
   replace s := s.ns 136 hq329
   replace s := s.ns 137 hq3210
   refine qq s rfl (y_ldp s rfl hlq32 hmq32 (by simpa using hcq32) underlying38 rfl rfl) fun a s => ?_
   refine lc s rfl func54 (by kernel_rfl) (c_r21_module n _ _ s.lt _ _ _ _ _ _ _ _ _ _ _ _ _ _ _ _ _ _ _ (by omega) (s.ft 129 rfl) (s.ft 130 rfl) (s.ft 131 rfl) (s.ft 132 rfl) (s.ft 133 rfl) (s.ft 134 rfl) (s.ft 135 rfl) (s.ft 136 rfl) (s.ft 137 rfl) _ hr27) fun v33 a w hK hp s => ?_
   obtain ⟨rfl, lu34a1⟩ := hp
   refine qq s rfl (y_concat s rfl rfl hk30) fun a s => ?_
   refine asg s rfl rfl fun a s => ?_
   apply wO
   refine p_inN ?_
   apply pN
   apply wL
   refine mv s rfl rfl fun a s => ?_
   refine qq s rfl (y_addN (i := i_21) (j := 1) s rfl rfl (in64.2 (by omega))) fun a s => ?_
   refine asg s rfl rfl fun a s => ?_
   apply wN
   exact ⟨m2, Nat.lt_succ_self _, ⟨(s_20 ++ r27), (i_21 + 1), hg, (by rw [List.length_append]; omega), (s.sb rfl rfl rfl)⟩⟩
  replace hg := br_f hg hc22
  apply wp_exit
  refine p_then ?_
  refine p_then ?_
  refine p_in ?_
  apply pN
  exact ⟨(s_20), hg, (by omega), (s.sb rfl rfl rfl)⟩
 clear s a; rintro a w ⟨s_19, hg, ls_19, s⟩
 subst hk18
 apply wQ
 apply wR
 refine mv s rfl rfl fun a s => ?_
 refine qq s rfl (y_lenStrN s rfl underlying9) fun a s => ?_
 refine qq s rfl (y_gtrN (i := ((s_19).length)) (j := 65536) s rfl rfl) fun a s => ?_
 apply wN
 refine c_dec s rfl (fun hc35 => ?_) (fun hc35 => ?_)
 ·replace hg := br_t hg hc35
  have hmx36 : (s_19).length ≤ 9223372036854775807 := (by omega)
  apply wR
  refine asg s rfl rfl fun a s => ?_
  refine asg s rfl rfl fun a s => ?_
  apply wN
  apply wp_ret
  refine p_thenR ?_
  obtain rfl := Option.some.inj hg
  refine fin2 (fn := Tryz.f23) s rfl (r_tmp s rfl) (r_tmp s rfl) ?_
  exact ⟨rfl, (Nat.le_of_ble_eq_true (by rfl))⟩
 replace hg := br_f hg hc35
 apply wp_skip
 apply pN
 apply wR
 refine mv s rfl rfl fun a s => ?_
 refine asg s rfl rfl fun a s => ?_
 refine asg s rfl rfl fun a s => ?_
 apply wN
 apply wp_ret
 obtain rfl := Option.some.inj hg
 refine fin2 (fn := Tryz.f23) s rfl (r_tmp s rfl) (r_tmp s rfl) ?_
 exact ⟨rfl, (by omega)⟩
set_option maxHeartbeats 1000000 in
theorem c_law22_light (n : Nat) (M : Bs) (w0 : World) (hM : ∀ b, M b → b < w0.heap.size) (t_ : (List Module)) (Ap01 : Option Addr) (cp01 : Nat) (hp01 : SlR RModule M w0 Ap01 (t_).length cp01 (t_)) (r : Bool) (hg : law22_light n t_ = some r) :
    Calls Tryz.prog 10 [.slice (Ap01) ((t_).length) (cp01)].toArray w0 (Ret noB w0 fun v w => v = .bool (r)) := by
 unfold law22_light at hg
 refine enter M noB func10 rfl rfl hM ?_
 intro a s
 replace s := s.es 101 hp01
 apply wR
 refine asg s rfl rfl fun a s => ?_
 apply wN
 apply wQ
 apply wQ
 obtain ⟨k1, hg, hk1⟩ := jn_some hg
 refine c_post (fun a w => ∃ (t_2 : Bool), k1 t_2 = some r ∧ St (cx f10 M w0) [(0, sl Ap01 t_ cp01), (14, .bool (t_2))] [] [(101, sF RModule Ap01 cp01 t_)] a w) ?_ ?_
 ·rcases Decidable.em ((6 : Nat) < ((t_).length)) with hs3 | hs3
  ·have hs3e := decide_eq_true hs3
   replace hg := br_t hg hs3
   have hmx4 := SlR.mx (s.ft 101 rfl)
   apply wL
   refine mv s rfl rfl fun a s => ?_
   refine qq s rfl (y_lenSlice s rfl underlying22) fun a s => ?_
   refine qq s rfl (yl_b (y_gtrN (i := ((t_).length)) (j := 6) s rfl rfl) hs3e) fun a s => ?_
   refine mv s rfl rfl fun a s => ?_
   refine gn s rfl fun a s => ?_
   refine gn s rfl fun a s => ?_
   refine gn s rfl fun a s => ?_
   refine qq s rfl (y_pick_t s rfl rfl) fun a s => ?_
   apply wN
   exact ⟨(true), hg, (s.sb rfl rfl rfl)⟩
  have hs3e := decide_eq_false hs3
  replace hg := br_f hg hs3
  obtain ⟨r5, hr5, hg⟩ := bind_some hg
  apply wL
  refine mv s rfl rfl fun a s => ?_
  refine qq s rfl (y_lenSlice s rfl underlying22) fun a s => ?_
  refine qq s rfl (yl_b (y_gtrN (i := ((t_).length)) (j := 6) s rfl rfl) hs3e) fun a s => ?_
  refine mv s rfl rfl fun a s => ?_
  refine gm s rfl rfl fun a s => ?_
  refine gl s rfl (l_call (cap := []) s rfl func22 rfl (by kernel_rfl) rfl rfl (c_r21_Light n _ _ s.lt _ _ _ (s.ft 101 rfl) _ hr5) fun v8 a w hK hp s => ?_)
  obtain rfl := hp
  refine gy s rfl (y_not s rfl) fun a s => ?_
  refine qq s rfl (y_pick_f s rfl rfl) fun a s => ?_
  apply wN
  exact ⟨(!(r5)), hg, (s.sb rfl rfl rfl)⟩
 clear s a; rintro a w ⟨t_2, hg, s⟩
 subst hk1
 refine c_cond s rfl (fun hc10 => ?_) (fun hc10 => ?_)
 ·replace hg := br_t hg hc10
  apply wR
  refine asg s rfl rfl fun a s => ?_
  apply wN
  apply wp_ret
  refine p_thenR ?_
  obtain rfl := Option.some.inj hg
  refine fin1 (fn := Tryz.f10) s rfl (r_tmp s rfl) ?_
  exact rfl
 replace hg := br_n hg hc10
 apply wp_skip
 apply pN
 apply wR
 refine asg s rfl rfl fun a s => ?_
 apply wN
 apply wQ
 apply wR
 refine asg s rfl rfl fun a s => ?_
 apply wN
 obtain ⟨k11, hg, hk11⟩ := jn_some hg
 refine c_post (fun a w => ∃ (t_12 : Int), k11 t_12 = some r ∧ St (cx f10 M w0) [(0, sl Ap01 t_ cp01), (3, vI t_12)] [] [(101, sF RModule Ap01 cp01 t_)] a w) ?_ ?_
 ·apply wp_block
  refine c_loop (σ := Nat) (fun m1 a w => ∃ (t_13 : Int) (t_14 : Nat), law22_light_L0 n t_ k11 m1 t_13 t_14 = some r ∧ St (cx f10 M w0) [(0, sl Ap01 t_ cp01), (3, vI t_13), (4, vI (((t_14 : Nat) : Int)))] [] [(101, sF RModule Ap01 cp01 t_)] a w) (fun m1 => m1) n ⟨(0), (0), hg, (s.sb rfl rfl rfl)⟩ ?_
  clear s a; rintro m1 a w ⟨t_13, t_14, hg, s⟩
  rcases m1 with _ | m1
  ·rw [law22_light_L0] at hg; cases hg
  rw [law22_light_L0] at hg
  apply wQ
  apply wR
  refine mv s rfl rfl fun a s => ?_
  refine mv s rfl rfl fun a s => ?_
  refine qq s rfl (y_lenSlice s rfl underlying22) fun a s => ?_
  refine qq s rfl (y_lssN (i := t_14) (j := ((t_).length)) s rfl rfl) fun a s => ?_
  apply wN
  refine c_dec s rfl (fun hc15 => ?_) (fun hc15 => ?_)
  ·replace hg := br_t hg hc15
   have hmx16 := SlR.mx (s.ft 101 rfl)
   apply wp_skip
   apply pN
   apply wQ
   apply wp_block
   obtain ⟨x18, hx18, hg⟩ := bind_some hg
   refine d_plan s [] [(0, some 0), (1, some 0), (2, some 0), (3, some 0), (4, some 0), (5, some 0), (6, some 0), (7, some 0), (8, some 0), (9, some 0), (10, some 0), (11, some 0), (12, some 0), (13, some 0), (14, some 0), (15, some 0), (16, some 0), (17, some 0), (18, some 0), (19, some 0), (20, some 0), (21, some 0), (22, some 0), (23, some 0), (24, some 0), (25, some 0), (26, some 0), (27, some 0), (28, some 0), (29, some 0), (30, some 0), (31, some 0), (32, some 0), (33, some 0), (34, some 0), (35, some 0), (36, some 0), (37, some 0), (38, some 0), (39, some 0), (40, some 0), (41, some 0), (42, some 0), (43, some 0), (44, some 0), (45, some 0), (46, some 0), (47, some 0), (48, some 0), (49, some 0), (50, some 0)] rfl (by kernel_rfl) (by kernel_rfl) rfl ?_; clear s; intro wr hZ s; have hR := s.wd
   refine qt s hR rfl (y_move s rfl) fun a s => ?_
   refine qt s hR rfl (y_move s rfl) fun a s => ?_
   refine qt s hR rfl (y_move s rfl) fun a s => ?_
   obtain ⟨p32, hep32, hpp32⟩ := SlR.elemX (s.ft 101 rfl) hx18
   refine qt s hR rfl (y_elem (sz := 10) (i := t_14) s rfl rfl underlying22 rfl hep32 rfl (lt_of_get hx18)) fun a s => ?_
   refine qt s hR rfl (y_ptrField (o' := 2) s rfl underlying38 rfl rfl rfl) fun a s => ?_
   obtain ⟨hlq33, hmq33, csq33, hdq33, hcq33⟩ := hpp32
   obtain ⟨Aq332, cq332, Aq333, cq333, Aq334, cq334, Aq335, cq335, Aq336, cq336, Aq337, cq337, Aq338, cq338, Aq339, cq339, Aq3310, cq3310, rfl, lq331, hq332, hq333, hq334, hq335, hq336, hq337, hq338, hq339, hq3310⟩ := RModule.open hdq33
   replace s := s.ns 165 hq332
   replace s := s.ns 166 hq333
   replace s := s.ns 167 hq334
   replace s := s.ns 168 hq335
   replace s := s.ns 169 hq336
   replace s := s.ns 170 hq337
   replace s := s.ns 171 hq338
   replace s := s.ns 172 hq339
   replace s := s.ns 173 hq3310
   refine qt s hR rfl (y_ldp1 s rfl hlq33 hmq33 (hcq33 2 _ rfl) underlying32 rfl) fun a s => ?_
   refine qt s hR rfl (y_lenSlice s rfl underlying32) fun a s => ?_
   refine qt s hR rfl (y_wadd s rfl rfl) fun a s => ?_
   refine qt s hR rfl (y_move s rfl) fun a s => ?_
   refine qt s hR rfl (y_move s rfl) fun a s => ?_
   obtain ⟨p34, hep34, hpp34⟩ := SlR.elemX (s.ft 101 rfl) hx18
   refine qt s hR rfl (y_elem (sz := 10) (i := t_14) s rfl rfl underlying22 rfl hep34 rfl (lt_of_get hx18)) fun a s => ?_
   refine qt s hR rfl (y_ptrField (o' := 3) s rfl underlying38 rfl rfl rfl) fun a s => ?_
   obtain ⟨hlq35, hmq35, csq35, hdq35, hcq35⟩ := hpp34
   obtain ⟨Aq352, cq352, Aq353, cq353, Aq354, cq354, Aq355, cq355, Aq356, cq356, Aq357, cq357, Aq358, cq358, Aq359, cq359, Aq3510, cq3510, rfl, lq351, hq352, hq353, hq354, hq355, hq356, hq357, hq358, hq359, hq3510⟩ := RModule.open hdq35
   replace s := s.ns 174 hq352
   replace s := s.ns 175 hq353
   replace s := s.ns 176 hq354
   replace s := s.ns 177 hq355
   replace s := s.ns 178 hq356
   replace s := s.ns 179 hq357
   replace s := s.ns 180 hq358
   replace s := s.ns 181 hq359
   replace s := s.ns 182 hq3510
   refine qt s hR rfl (y_ldp1 s rfl hlq35 hmq35 (hcq35 3 _ rfl) underlying33 rfl) fun a s => ?_
   refine qt s hR rfl (y_lenSlice s rfl underlying33) fun a s => ?_
   refine qt s hR rfl (y_wadd s rfl rfl) fun a s => ?_
   refine qt s hR rfl (y_move s rfl) fun a s => ?_
   refine qt s hR rfl (y_move s rfl) fun a s => ?_
   obtain ⟨p36, hep36, hpp36⟩ := SlR.elemX (s.ft 101 rfl) hx18
   refine qt s hR rfl (y_elem (sz := 10) (i := t_14) s rfl rfl underlying22 rfl hep36 rfl (lt_of_get hx18)) fun a s => ?_
   refine qt s hR rfl (y_ptrField (o' := 4) s rfl underlying38 rfl rfl rfl) fun a s => ?_
   obtain ⟨hlq37, hmq37, csq37, hdq37, hcq37⟩ := hpp36
   obtain ⟨Aq372, cq372, Aq373, cq373, Aq374, cq374, Aq375, cq375, Aq376, cq376, Aq377, cq377, Aq378, cq378, Aq379, cq379, Aq3710, cq3710, rfl, lq371, hq372, hq373, hq374, hq375, hq376, hq377, hq378, hq379, hq3710⟩ := RModule.open hdq37
   replace s := s.ns 183 hq372
   replace s := s.ns 184 hq373
   replace s := s.ns 185 hq374
   replace s := s.ns 186 hq375
   replace s := s.ns 187 hq376
   replace s := s.ns 188 hq377
   replace s := s.ns 189 hq378
   replace s := s.ns 190 hq379
   replace s := s.ns 191 hq3710
   refine qt s hR rfl (y_ldp1 s rfl hlq37 hmq37 (hcq37 4 _ rfl) underlying34 rfl) fun a s => ?_
   refine qt s hR rfl (y_lenSlice s rfl underlying34) fun a s => ?_
   refine qt s hR rfl (y_wadd s rfl rfl) fun a s => ?_
   refine qt s hR rfl (y_move s rfl) fun a s => ?_
   refine qt s hR rfl (y_move s rfl) fun a s => ?_
   obtain ⟨p38, hep38, hpp38⟩ := SlR.elemX (s.ft 101 rfl) hx18
   refine qt s hR rfl (y_elem (sz := 10) (i := t_14) s rfl rfl underlying22 rfl hep38 rfl (lt_of_get hx18)) fun a s => ?_
   refine qt s hR rfl (y_ptrField (o' := 5) s rfl underlying38 rfl rfl rfl) fun a s => ?_
   obtain ⟨hlq39, hmq39, csq39, hdq39, hcq39⟩ := hpp38
   obtain ⟨Aq392, cq392, Aq393, cq393, Aq394, cq394, Aq395, cq395, Aq396, cq396, Aq397, cq397, Aq398, cq398, Aq399, cq399, Aq3910, cq3910, rfl, lq391, hq392, hq393, hq394, hq395, hq396, hq397, hq398, hq399, hq3910⟩ := RModule.open hdq39
   replace s := s.ns 192 hq392
   replace s := s.ns 193 hq393
   replace s := s.ns 194 hq394
   replace s := s.ns 195 hq395
   replace s := s.ns 196 hq396
   replace s := s.ns 197 hq397
   replace s := s.ns 198 hq398
   replace s := s.ns 199 hq399
   replace s := s.ns 200 hq3910
   refine qt s hR rfl (y_ldp1 s rfl hlq39 hmq39 (hcq39 5 _ rfl) underlying35 rfl) fun a s => ?_
   refine qt s hR rfl (y_lenSlice s rfl underlying35) fun a s => ?_
   refine qt s hR rfl (y_wadd s rfl rfl) fun a s => ?_
   refine qt s hR rfl (y_move s rfl) fun a s => ?_
   refine qt s hR rfl (y_move s rfl) fun a s => ?_
   obtain ⟨p40, hep40, hpp40⟩ := SlR.elemX (s.ft 101 rfl) hx18
   refine qt s hR rfl (y_elem (sz := 10) (i := t_14) s rfl rfl underlying22 rfl hep40 rfl (lt_of_get hx18)) fun a s => ?_
   refine qt s hR rfl (y_ptrField (o' := 6) s rfl underlying38 rfl rfl rfl) fun a s => ?_
   obtain ⟨hlq41, hmq41, csq41, hdq41, hcq41⟩ := hpp40
   obtain ⟨Aq412, cq412, Aq413, cq413, Aq414, cq414, Aq415, cq415, Aq416, cq416, Aq417, cq417, Aq418, cq418, Aq419, cq419, Aq4110, cq4110, rfl, lq411, hq412, hq413, hq414, hq415, hq416, hq417, hq418, hq419, hq4110⟩ := RModule.open hdq41
   replace s := s.ns 201 hq412
   replace s := s.ns 202 hq413
   replace s := s.ns 203 hq414
   replace s := s.ns 204 hq415
   replace s := s.ns 205 hq416
   replace s := s.ns 206 hq417
   replace s := s.ns 207 hq418
   replace s := s.ns 208 hq419
   replace s := s.ns 209 hq4110
   refine qt s hR rfl (y_ldp1 s rfl hlq41 hmq41 (hcq41 6 _ rfl) underlying33 rfl) fun a s => ?_
   refine qt s hR rfl (y_lenSlice s rfl underlying33) fun a s => ?_
   refine qt s hR rfl (y_wadd s rfl rfl) fun a s => ?_
   refine qt s hR rfl (y_move s rfl) fun a s => ?_
   refine qt s hR rfl (y_move s rfl) fun a s => ?_
   obtain ⟨p42, hep42, hpp42⟩ := SlR.elemX (s.ft 101 rfl) hx18
   refine qt s hR rfl (y_elem (sz := 10) (i := t_14) s rfl rfl underlying22 rfl hep42 rfl (lt_of_get hx18)) fun a s => ?_
   refine qt s hR rfl (y_ptrField (o' := 7) s rfl underlying38 rfl rfl rfl) fun a s => ?_
   obtain ⟨hlq43, hmq43, csq43, hdq43, hcq43⟩ := hpp42
   obtain ⟨Aq432, cq432, Aq433, cq433, Aq434, cq434, Aq435, cq435, Aq436, cq436, Aq437, cq437, Aq438, cq438, Aq439, cq439, Aq4310, cq4310, rfl, lq431, hq432, hq433, hq434, hq435, hq436, hq437, hq438, hq439, hq4310⟩ := RModule.open hdq43
   replace s := s.ns 210 hq432
   replace s := s.ns 211 hq433
   replace s := s.ns 212 hq434
   replace s := s.ns 213 hq435
   replace s := s.ns 214 hq436
   replace s := s.ns 215 hq437
   replace s := s.ns 216 hq438
   replace s := s.ns 217 hq439
   replace s := s.ns 218 hq4310
   refine qt s hR rfl (y_ldp1 s rfl hlq43 hmq43 (hcq43 7 _ rfl) underlying33 rfl) fun a s => ?_
   refine qt s hR rfl (y_lenSlice s rfl underlying33) fun a s => ?_
   refine qt s hR rfl (y_wadd s rfl rfl) fun a s => ?_
   refine qt s hR rfl (y_move s rfl) fun a s => ?_
   refine qt s hR rfl (y_move s rfl) fun a s => ?_
   obtain ⟨p44, hep44, hpp44⟩ := SlR.elemX (s.ft 101 rfl) hx18
   refine qt s hR rfl (y_elem (sz := 10) (i := t_14) s rfl rfl underlying22 rfl hep44 rfl (lt_of_get hx18)) fun a s => ?_
   refine qt s hR rfl (y_ptrField (o' := 1) s rfl underlying38 rfl rfl rfl) fun a s => ?_
   obtain ⟨hlq45, hmq45, csq45, hdq45, hcq45⟩ := hpp44
   obtain ⟨Aq452, cq452, Aq453, cq453, Aq454, cq454, Aq455, cq455, Aq456, cq456, Aq457, cq457, Aq458, cq458, Aq459, cq459, Aq4510, cq4510, rfl, lq451, hq452, hq453, hq454, hq455, hq456, hq457, hq458, hq459, hq4510⟩ := RModule.open hdq45
   replace s := s.ns 219 hq452
   replace s := s.ns 220 hq453
   replace s := s.ns 221 hq454
   replace s := s.ns 222 hq455
   replace s := s.ns 223 hq456
   replace s := s.ns 224 hq457
   replace s := s.ns 225 hq458
   replace s := s.ns 226 hq459
   replace s := s.ns 227 hq4510
   refine qt s hR rfl (y_ldp1 s rfl hlq45 hmq45 (hcq45 1 _ rfl) underlying25 rfl) fun a s => ?_
   refine qt s hR rfl (y_lenSlice s rfl underlying25) fun a s => ?_
   refine qt s hR rfl (y_wadd s rfl rfl) fun a s => ?_
   refine qt s hR rfl (y_assign s rfl) fun a s => ?_
   clear hR hZ
   refine p_inN ?_
   apply pN
   apply wL
   refine mv s rfl rfl fun a s => ?_
   refine qq s rfl (y_addN (i := t_14) (j := 1) s rfl rfl (in64.2 (by omega))) fun a s => ?_
   refine asg s rfl rfl fun a s => ?_
   apply wN
   exact ⟨m1, Nat.lt_succ_self _, ⟨(IntKind.i64.wrap ((IntKind.i64.wrap ((IntKind.i64.wrap ((IntKind.i64.wrap ((IntKind.i64.wrap ((IntKind.i64.wrap ((IntKind.i64.wrap (t_13 + (((x18.Types).length : Nat) : Int))) + (((x18.Templates).length : Nat) : Int))) + (((x18.Entries).length : Nat) : Int))) + (((x18.LexRules).length : Nat) : Int))) + (((x18.Rules).length : Nat) : Int))) + (((x18.Roots).length : Nat) : Int))) + (((x18.Imports).length : Nat) : Int))), (t_14 + 1), hg, (s.sb rfl rfl rfl)⟩⟩
  replace hg := br_f hg hc15
  apply wp_exit
  refine p_then ?_
  refine p_then ?_
  refine p_in ?_
  apply pN
  exact ⟨(t_13), hg, (s.sb rfl rfl rfl)⟩
 clear s a; rintro a w ⟨t_12, hg, s⟩
 subst hk11
 apply wQ
 obtain ⟨r46, hr46, hg⟩ := bind_some hg
 apply wL
 refine mv s rfl rfl fun a s => ?_
 refine lc s rfl func23 (by kernel_rfl) (c_r21_Print n _ _ s.lt _ _ _ (s.ft 101 rfl) _ hr46) fun v49 a w hK hp s => ?_
 obtain ⟨rfl, lu50a1⟩ := hp
 refine mv s rfl rfl fun a s => ?_
 refine qq s rfl (y_extract s rfl rfl) fun a s => ?_
 refine qq s rfl (y_extract s rfl rfl) fun a s => ?_
 refine asg s rfl rfl fun a s => ?_
 refine asg s rfl rfl fun a s => ?_
 apply wN
 apply wQ
 rcases Decidable.em (t_12 ≤ 40) with hs51 | hs51
 ·have hs51e := decide_eq_true hs51
  replace hg := br_t hg hs51
  apply wL
  refine mv s rfl rfl fun a s => ?_
  refine qq s rfl (yl_b (y_leq s rfl rfl) hs51e) fun a s => ?_
  refine mv s rfl rfl fun a s => ?_
  refine gm s rfl rfl fun a s => ?_
  refine gy s rfl (y_eql s rfl rfl) fun a s => ?_
  refine qq s rfl (y_pick_t s rfl rfl) fun a s => ?_
  refine asg s rfl rfl fun a s => ?_
  apply wN
  apply wp_ret
  obtain rfl := Option.some.inj hg
  refine fin1 (fn := Tryz.f10) s rfl (r_tmp s rfl) ?_
  exact rfl
 have hs51e := decide_eq_false hs51
 replace hg := br_f hg hs51
 apply wL
 refine mv s rfl rfl fun a s => ?_
 refine qq s rfl (yl_b (y_leq s rfl rfl) hs51e) fun a s => ?_
 refine mv s rfl rfl fun a s => ?_
 refine gn s rfl fun a s => ?_
 refine gn s rfl fun a s => ?_
 refine qq s rfl (y_pick_f s rfl rfl) fun a s => ?_
 refine asg s rfl rfl fun a s => ?_
 apply wN
 apply wp_ret
 obtain rfl := Option.some.inj hg
 refine fin1 (fn := Tryz.f10) s rfl (r_tmp s rfl) ?_
 exact rfl
set_option maxHeartbeats 1000000 in
theorem c_slices_IndexFunc_Module (n : Nat) (M : Bs) (w0 : World) (hM : ∀ b, M b → b < w0.heap.size) (s_ : (List Module)) (Ap01 : Option Addr) (cp01 : Nat) (hp01 : SlR RModule M w0 Ap01 (s_).length cp01 (s_)) (f_ : (Module → Option Bool)) (Ap11 : FuncId) (cp11 : List Value) (hp11 : FnR Tryz.prog Ap11 cp11 pre66 post66 (f_) M w0) (r : Int) (hg : slices_IndexFunc_Module n s_ f_ = some r) :
    Calls Tryz.prog 55 [.slice (Ap01) ((s_).length) (cp01), .func (.func Ap11) #[] (List.toArray cp11)].toArray w0 (Ret noB w0 fun v w => v = .int .i64 (r)) := by
 unfold slices_IndexFunc_Module at hg
 refine enter M noB func55 rfl rfl hM ?_
 intro a s
 replace s := s.es 101 hp01
 replace s := s.add 102 (fnF Tryz.prog Ap11 cp11 pre66 post66 (f_)) (by exact Fact.change _ enterM hp11)
 apply wR
 refine asg s rfl rfl fun a s => ?_
 apply wN
 apply wQ
 apply wR
 refine mv s rfl rfl fun a s => ?_
 refine qq s rfl (y_lenSlice s rfl underlying22) fun a s => ?_
 refine mv s rfl rfl fun a s => ?_
 apply wN
 apply wp_block
 refine c_loop (σ := Nat) (fun m1 a w => ∃ (t_1 : Nat), slices_IndexFunc_Module_L0 n s_ f_ m1 t_1 = some r ∧ St (cx f55 M w0) [(0, sl Ap01 s_ cp01), (1, .func (.func Ap11) #[] (List.toArray cp11)), (7, vI ((((s_).length : Nat) : Int))), (8, vI (((t_1 : Nat) : Int)))] [] [(101, sF RModule Ap01 cp01 s_), (102, fnF Tryz.prog Ap11 cp11 pre66 post66 (f_))] a w) (fun m1 => m1) n ⟨(0), hg, (s.sb rfl rfl rfl)⟩ ?_
 clear s a; rintro m1 a w ⟨t_1, hg, s⟩
 rcases m1 with _ | m1
 ·rw [slices_IndexFunc_Module_L0] at hg; cases hg
 rw [slices_IndexFunc_Module_L0] at hg
 apply wR
 refine qq s rfl (y_lssN (i := t_1) (j := ((s_).length)) s rfl rfl) fun a s => ?_
 apply wN
 apply wQ
 refine c_dec s rfl (fun hc2 => ?_) (fun hc2 => ?_)
 ·replace hg := br_t hg hc2
  have hmx3 := SlR.mx (s.ft 101 rfl)
  apply wp_skip
  apply pN
  apply wQ
  apply wp_block
  apply wR
  refine mv s rfl rfl fun a s => ?_
  refine asg s rfl rfl fun a s => ?_
  apply wN
  apply wQ
  obtain ⟨x5, hx5, hg⟩ := bind_some hg
  obtain ⟨r7, hr7, hg⟩ := bind_some hg
  apply wL
  refine mv s rfl rfl fun a s => ?_
  refine mv s rfl rfl fun a s => ?_
  refine mv s rfl rfl fun a s => ?_
  obtain ⟨p10, hep10, hpp10⟩ := SlR.elemX (s.ft 101 rfl) hx5
  refine qq s rfl (y_elem (sz := 10) (i := t_1) s rfl rfl underlying22 rfl hep10 rfl (lt_of_get hx5)) fun a s => ?_
  obtain ⟨hlq11, hmq11, csq11, hdq11, hcq11⟩ := hpp10
  obtain ⟨Aq112, cq112, Aq113, cq113, Aq114, cq114, Aq115, cq115, Aq116, cq116, Aq117, cq117, Aq118, cq118, Aq119, cq119, Aq1110, cq1110, rfl, lq111, hq112, hq113, hq114, hq115, hq116, hq117, hq118, hq119, hq1110⟩ := RModule.open hdq11
  replace s := s.ns 112 hq112
  replace s := s.ns 113 hq113
  replace s := s.ns 114 hq114
  replace s := s.ns 115 hq115
  replace s := s.ns 116 hq116
  replace s := s.ns 117 hq117
  replace s := s.ns 118 hq118
  replace s := s.ns 119 hq119
  replace s := s.ns 120 hq1110
  refine qq s rfl (y_ldp s rfl hlq11 hmq11 (by simpa using hcq11) underlying38 rfl rfl) fun a s => ?_
  refine l_seq rfl (l_callFn (cap := cp11) (x := x5) s rfl (s.ft 102 rfl) rfl rfl ⟨(Aq112), (cq112), (Aq113), (cq113), (Aq114), (cq114), (Aq115), (cq115), (Aq116), (cq116), (Aq117), (cq117), (Aq118), (cq118), (Aq119), (cq119), (Aq1110), (cq1110), rfl, (by omega), (s.ft 112 rfl), (s.ft 113 rfl), (s.ft 114 rfl), (s.ft 115 rfl), (s.ft 116 rfl), (s.ft 117 rfl), (s.ft 118 rfl), (s.ft 119 rfl), (s.ft 120 rfl)⟩ hr7 fun v12 a w hK hp s => ?_)
  obtain rfl := hp
  apply wN
  refine c_cond s rfl (fun hc14 => ?_) (fun hc14 => ?_)
  ·replace hg := br_t hg hc14
   apply wR
   refine mv s rfl rfl fun a s => ?_
   refine asg s rfl rfl fun a s => ?_
   apply wN
   apply wp_ret
   refine p_inR ?_
   refine p_thenR ?_
   refine p_thenR ?_
   refine p_inR ?_
   refine p_thenR ?_
   obtain rfl := Option.some.inj hg
   refine fin1 (fn := Tryz.f55) s rfl (r_tmp s rfl) ?_
   exact rfl
  replace hg := br_n hg hc14
  apply wp_skip
  refine p_inN ?_
  apply pN
  apply wL
  refine qq s rfl (y_addN (i := t_1) (j := 1) s rfl rfl (in64.2 (by omega))) fun a s => ?_
  refine mv s rfl rfl fun a s => ?_
  apply wN
  exact ⟨m1, Nat.lt_succ_self _, ⟨(t_1 + 1), hg, (s.sb rfl rfl rfl)⟩⟩
 replace hg := br_f hg hc2
 apply wp_exit
 refine p_then ?_
 refine p_then ?_
 refine p_in ?_
 apply pN
 apply wR
 refine asg s rfl rfl fun a s => ?_
 apply wN
 apply wp_ret
 obtain rfl := Option.some.inj hg
 refine fin1 (fn := Tryz.f55) s rfl (r_tmp s rfl) ?_
 exact rfl
set_option maxHeartbeats 1000000 in
theorem c_module_find_1 (n : Nat) (M : Bs) (w0 : World) (hM : ∀ b, M b → b < w0.heap.size) (m_ : Module) (Ap02 : Option Addr) (cp02 : Nat) (Ap03 : Option Addr) (cp03 : Nat) (Ap04 : Option Addr) (cp04 : Nat) (Ap05 : Option Addr) (cp05 : Nat) (Ap06 : Option Addr) (cp06 : Nat) (Ap07 : Option Addr) (cp07 : Nat) (Ap08 : Option Addr) (cp08 : Nat) (Ap09 : Option Addr) (cp09 : Nat) (Ap010 : Option Addr) (cp010 : Nat) (lp01 : (m_.Name).length ≤ 9223372036854775807) (hp02 : SlR Rep.str M w0 Ap02 (m_.Imports).length cp02 (m_.Imports)) (hp03 : SlR RTypeDecl M w0 Ap03 (m_.Types).length cp03 (m_.Types)) (hp04 : SlR RDef M w0 Ap04 (m_.Templates).length cp04 (m_.Templates)) (hp05 : SlR REntryDecl M w0 Ap05 (m_.Entries).length cp05 (m_.Entries)) (hp06 : SlR RLexDecl M w0 Ap06 (m_.LexRules).length cp06 (m_.LexRules)) (hp07 : SlR RDef M w0 Ap07 (m_.Rules).length cp07 (m_.Rules)) (hp08 : SlR RDef M w0 Ap08 (m_.Roots).length cp08 (m_.Roots)) (hp09 : SlR (Rep.list Rep.str) M w0 Ap09 (m_.Checks).length cp09 (m_.Checks)) (hp010 : SlR Rep.str M w0 Ap010 (m_.Drops).length cp010 (m_.Drops)) (bf0 : Nat) (c0_ : (List UInt8)) (lf01 : (c0_).length ≤ 9223372036854775807) (hb0 : BoxR bf0 [.string (bs (c0_))] 9 M w0) (r : Bool) (hg : module_find_1 n m_ c0_ = some r) :
    Calls Tryz.prog 56 [.agg #[.string (bs (m_.Name)), .slice (Ap02) ((m_.Imports).length) (cp02), .slice (Ap03) ((m_.Types).length) (cp03), .slice (Ap04) ((m_.Templates).length) (cp04), .slice (Ap05) ((m_.Entries).length) (cp05), .slice (Ap06) ((m_.LexRules).length) (cp06), .slice (Ap07) ((m_.Rules).length) (cp07), .slice (Ap08) ((m_.Roots).length) (cp08), .slice (Ap09) ((m_.Checks).length) (cp09), .slice (Ap010) ((m_.Drops).length) (cp010)], .pointer (some ⟨bf0, 0, none⟩)].toArray w0 (Ret noB w0 fun v w => v = .bool (r)) := by
 unfold module_find_1 at hg
 refine enter M noB func56 rfl rfl hM ?_
 intro a s
 replace s := s.es 101 hp02
 replace s := s.es 102 hp03
 replace s := s.es 103 hp04
 replace s := s.es 104 hp05
 replace s := s.es 105 hp06
 replace s := s.es 106 hp07
 replace s := s.es 107 hp08
 replace s := s.es 108 hp09
 replace s := s.es 109 hp010
 replace s := s.ebx 110 hb0
 apply wR
 refine l_seq rfl (l_box (zs := [vT m_.Name, sl Ap02 m_.Imports cp02, sl Ap03 m_.Types cp03, sl Ap04 m_.Templates cp04, sl Ap05 m_.Entries cp05, sl Ap06 m_.LexRules cp06, sl Ap07 m_.Rules cp07, sl Ap08 m_.Roots cp08, sl Ap09 m_.Checks cp09, sl Ap010 m_.Drops cp010]) s 1000 rfl rfl rfl rfl fun b2 a w hb hK s => ?_)
 refine asg s rfl rfl fun a s => ?_
 apply wN
 apply wR
 refine qq s rfl (y_boxField (o' := 0) s rfl underlying38 rfl rfl rfl) fun a s => ?_
 refine qq s rfl (y_loadBox1 (kk := 1000) s rfl rfl rfl underlying9 rfl) fun a s => ?_
 refine qq s rfl (y_loadF1 s rfl (s.ft 110 rfl) rfl underlying9 rfl) fun a s => ?_
 refine qq s rfl (y_seq s rfl rfl) fun a s => ?_
 refine asg s rfl rfl fun a s => ?_
 apply wN
 apply wp_ret
 obtain rfl := Option.some.inj hg
 refine fin1 (fn := Tryz.f56) s rfl (r_tmp s rfl) ?_
 exact rfl
set_option maxHeartbeats 1000000 in
theorem c_module_find (n : Nat) (M : Bs) (w0 : World) (hM : ∀ b, M b → b < w0.heap.size) (l_ : (List Module)) (Ap01 : Option Addr) (cp01 : Nat) (hp01 : SlR RModule M w0 Ap01 (l_).length cp01 (l_)) (name_ : (List UInt8)) (lp11 : (name_).length ≤ 9223372036854775807) (r : (Module × Bool)) (hg : module_find n l_ name_ = some r) :
    Calls Tryz.prog 27 [.slice (Ap01) ((l_).length) (cp01), .string (bs (name_))].toArray w0 (Ret noB w0 fun v w => ∃ (Aa2 : Option Addr), ∃ (ca2 : Nat), ∃ (Aa3 : Option Addr), ∃ (ca3 : Nat), ∃ (Aa4 : Option Addr), ∃ (ca4 : Nat), ∃ (Aa5 : Option Addr), ∃ (ca5 : Nat), ∃ (Aa6 : Option Addr), ∃ (ca6 : Nat), ∃ (Aa7 : Option Addr), ∃ (ca7 : Nat), ∃ (Aa8 : Option Addr), ∃ (ca8 : Nat), ∃ (Aa9 : Option Addr), ∃ (ca9 : Nat), ∃ (Aa10 : Option Addr), ∃ (ca10 : Nat), v = .tuple #[.agg #[.string (bs (r.1.Name)), .slice (Aa2) ((r.1.Imports).length) (ca2), .slice (Aa3) ((r.1.Types).length) (ca3), .slice (Aa4) ((r.1.Templates).length) (ca4), .slice (Aa5) ((r.1.Entries).length) (ca5), .slice (Aa6) ((r.1.LexRules).length) (ca6), .slice (Aa7) ((r.1.Rules).length) (ca7), .slice (Aa8) ((r.1.Roots).length) (ca8), .slice (Aa9) ((r.1.Checks).length) (ca9), .slice (Aa10) ((r.1.Drops).length) (ca10)], .bool (r.2)] ∧ ((r.1.Name).length ≤ 9223372036854775807) ∧ (SlR Rep.str M w Aa2 (r.1.Imports).length ca2 (r.1.Imports)) ∧ (SlR RTypeDecl M w Aa3 (r.1.Types).length ca3 (r.1.Types)) ∧ (SlR RDef M w Aa4 (r.1.Templates).length ca4 (r.1.Templates)) ∧ (SlR REntryDecl M w Aa5 (r.1.Entries).length ca5 (r.1.Entries)) ∧ (SlR RLexDecl M w Aa6 (r.1.LexRules).length ca6 (r.1.LexRules)) ∧ (SlR RDef M w Aa7 (r.1.Rules).length ca7 (r.1.Rules)) ∧ (SlR RDef M w Aa8 (r.1.Roots).length ca8 (r.1.Roots)) ∧ (SlR (Rep.list Rep.str) M w Aa9 (r.1.Checks).length ca9 (r.1.Checks)) ∧ (SlR Rep.str M w Aa10 (r.1.Drops).length ca10 (r.1.Drops))) := by
 unfold module_find at hg
 refine enter M noB func27 rfl rfl hM ?_
 intro a s
 replace s := s.es 101 hp01
 apply wR
 refine l_seq rfl (l_box (zs := [vT name_]) s 1000 rfl rfl rfl rfl fun b3 a w hb hK s => ?_)
 refine l_seq rfl (l_alloc (zs := [vT ([]), .slice none 0 0, .slice none 0 0, .slice none 0 0, .slice none 0 0, .slice none 0 0, .slice none 0 0, .slice none 0 0, .slice none 0 0, .slice none 0 0]) s 1001 rfl rfl rfl rfl fun b4 a w hb hK s => ?_)
 refine asg s rfl rfl fun a s => ?_
 apply wN
 apply wQ
 obtain ⟨r5, hr5, hg⟩ := bind_some hg
 apply wL
 refine mv s rfl rfl fun a s => ?_
 replace s := s.freezeBox (L' := [(1001, Ob.box b4 [vT ([]), .slice none 0 0, .slice none 0 0, .slice none 0 0, .slice none 0 0, .slice none 0 0, .slice none 0 0, .slice none 0 0, .slice none 0 0, .slice none 0 0] 38)]) 103 1000 rfl ⟨rfl, trivial⟩ rfl
 refine qq s rfl (y_makeFunc (xs := [.tmp 3]) (vs := [vP b3 0]) s rfl) fun a s => ?_
 refine lc s rfl func55 (by kernel_rfl) (c_slices_IndexFunc_Module n _ _ s.lt _ _ _ (s.ft 101 rfl) _ _ _ ⟨⟨_, _, func56, rfl, by kernel_rfl⟩, fun M1 w1 hk hm hlt vs x r hp hr => by obtain ⟨Aa2, ca2, Aa3, ca3, Aa4, ca4, Aa5, ca5, Aa6, ca6, Aa7, ca7, Aa8, ca8, Aa9, ca9, Aa10, ca10, rfl, la1, ha2, ha3, ha4, ha5, ha6, ha7, ha8, ha9, ha10⟩ := hp; exact c_module_find_1 n M1 w1 hlt (x) Aa2 ca2 Aa3 ca3 Aa4 ca4 Aa5 ca5 Aa6 ca6 Aa7 ca7 Aa8 ca8 Aa9 ca9 Aa10 ca10 la1 ha2 ha3 ha4 ha5 ha6 ha7 ha8 ha9 ha10 b3 (name_) (by omega) (Fact.move (boxF b3 [vT name_] 9) hk hm (s.ft 103 rfl)) r hr⟩ _ hr5) fun v8 a w hK hp s => ?_
 obtain rfl := hp
 refine asg s rfl rfl fun a s => ?_
 apply wN
 apply wQ
 apply wR
 refine mv s rfl rfl fun a s => ?_
 refine qq s rfl (y_lss s rfl rfl) fun a s => ?_
 apply wN
 refine c_dec s rfl (fun hc10 => ?_) (fun hc10 => ?_)
 ·replace hg := br_t hg hc10
  apply wR
  refine qq s rfl (y_build (parts := []) (ps := []) (cells := #[vT ([]), .slice none 0 0, .slice none 0 0, .slice none 0 0, .slice none 0 0, .slice none 0 0, .slice none 0 0, .slice none 0 0, .slice none 0 0, .slice none 0 0]) s rfl (by kernel_rfl)) fun a s => ?_
  refine l_seq rfl (l_store (n := 10) (cs' := [vT ([]), .slice none 0 0, .slice none 0 0, .slice none 0 0, .slice none 0 0, .slice none 0 0, .slice none 0 0, .slice none 0 0, .slice none 0 0, .slice none 0 0]) s 1001 rfl rfl rfl rfl rfl rfl rfl rfl ?_); clear s; intro w hK s; clear hK
  refine asg s rfl rfl fun a s => ?_
  apply wN
  apply wp_ret
  refine p_thenR ?_
  obtain rfl := Option.some.inj hg
  refine fin2 (fn := Tryz.f27) s rfl (r_cell (kk := 1001) (n := 10) (vs := [vT ([]), .slice none 0 0, .slice none 0 0, .slice none 0 0, .slice none 0 0, .slice none 0 0, .slice none 0 0, .slice none 0 0, .slice none 0 0, .slice none 0 0]) s rfl rfl underlying38 rfl rfl rfl rfl) (r_tmp s rfl) ?_
  exact ⟨(none), (0), (none), (0), (none), (0), (none), (0), (none), (0), (none), (0), (none), (0), (none), (0), (none), (0), rfl, (Nat.le_of_ble_eq_true (by rfl)), (SlR.nil_ _ _ _), (SlR.nil_ _ _ _), (SlR.nil_ _ _ _), (SlR.nil_ _ _ _), (SlR.nil_ _ _ _), (SlR.nil_ _ _ _), (SlR.nil_ _ _ _), (SlR.nil_ _ _ _), (SlR.nil_ _ _ _)⟩
 replace hg := br_f hg hc10
 apply wp_skip
 apply pN
 apply wQ
 obtain ⟨x12, hx12, hg⟩ := bind_some hg
 apply wL
 refine mv s rfl rfl fun a s => ?_
 refine mv s rfl rfl fun a s => ?_
 obtain ⟨p14, hep14, hpp14⟩ := SlR.elemX (s.ft 101 rfl) (ix_some hx12).1
 refine qq s rfl (y_elem (sz := 10) (i := ((r5).toNat)) s rfl rfl underlying22 rfl hep14 (ix_some hx12).2.1 (lt_of_get (ix_some hx12).1)) fun a s => ?_
 obtain ⟨hlq15, hmq15, csq15, hdq15, hcq15⟩ := hpp14
 obtain ⟨Aq152, cq152, Aq153, cq153, Aq154, cq154, Aq155, cq155, Aq156, cq156, Aq157, cq157, Aq158, cq158, Aq159, cq159, Aq1510, cq1510, rfl, lq151, hq152, hq153, hq154, hq155, hq156, hq157, hq158, hq159, hq1510⟩ := RModule.open hdq15
 replace s := s.ns 113 hq152
 replace s := s.ns 114 hq153
 replace s := s.ns 115 hq154
 replace s := s.ns 116 hq155
 replace s := s.ns 117 hq156
 replace s := s.ns 118 hq157
 replace s := s.ns 119 hq158
 replace s := s.ns 120 hq159
 replace s := s.ns 121 hq1510
 refine qq s rfl (y_ldp s rfl hlq15 hmq15 (by simpa using hcq15) underlying38 rfl rfl) fun a s => ?_
 refine l_seq rfl (l_store (n := 10) (cs' := [vT x12.Name, sl Aq152 x12.Imports cq152, sl Aq153 x12.Types cq153, sl Aq154 x12.Templates cq154, sl Aq155 x12.Entries cq155, sl Aq156 x12.LexRules cq156, sl Aq157 x12.Rules cq157, sl Aq158 x12.Roots cq158, sl Aq159 x12.Checks cq159, sl Aq1510 x12.Drops cq1510]) s 1001 rfl rfl rfl rfl rfl rfl rfl rfl ?_); clear s; intro w hK s; clear hK
 refine asg s rfl rfl fun a s => ?_
 apply wN
 apply wp_ret
 obtain rfl := Option.some.inj hg
 refine fin2 (fn := Tryz.f27) s rfl (r_cell (kk := 1001) (n := 10) (vs := [vT x12.Name, sl Aq152 x12.Imports cq152, sl Aq153 x12.Types cq153, sl Aq154 x12.Templates cq154, sl Aq155 x12.Entries cq155, sl Aq156 x12.LexRules cq156, sl Aq157 x12.Rules cq157, sl Aq158 x12.Roots cq158, sl Aq159 x12.Checks cq159, sl Aq1510 x12.Drops cq1510]) s rfl rfl underlying38 rfl rfl rfl rfl) (r_tmp s rfl) ?_
 exact ⟨(Aq152), (cq152), (Aq153), (cq153), (Aq154), (cq154), (Aq155), (cq155), (Aq156), (cq156), (Aq157), (cq157), (Aq158), (cq158), (Aq159), (cq159), (Aq1510), (cq1510), rfl, (by omega), (s.out (k := 113) rfl), (s.out (k := 114) rfl), (s.out (k := 115) rfl), (s.out (k := 116) rfl), (s.out (k := 117) rfl), (s.out (k := 118) rfl), (s.out (k := 119) rfl), (s.out (k := 120) rfl), (s.out (k := 121) rfl)⟩
set_option maxHeartbeats 1000000 in
theorem c_slices_Index_string (n : Nat) (M : Bs) (w0 : World) (hM : ∀ b, M b → b < w0.heap.size) (s_ : (List (List UInt8))) (Ap01 : Option Addr) (cp01 : Nat) (hp01 : SlR Rep.str M w0 Ap01 (s_).length cp01 (s_)) (v_ : (List UInt8)) (lp11 : (v_).length ≤ 9223372036854775807) (r : Int) (hg : slices_Index_string n s_ v_ = some r) :
    Calls Tryz.prog 67 [.slice (Ap01) ((s_).length) (cp01), .string (bs (v_))].toArray w0 (Ret noB w0 fun v w => v = .int .i64 (r)) := by
 unfold slices_Index_string at hg
 refine enter M noB func67 rfl rfl hM ?_
 intro a s
 replace s := s.es 101 hp01
 apply wR
 refine asg s rfl rfl fun a s => ?_
 apply wN
 apply wQ
 apply wR
 refine mv s rfl rfl fun a s => ?_
 refine qq s rfl (y_lenSlice s rfl underlying25) fun a s => ?_
 refine mv s rfl rfl fun a s => ?_
 apply wN
 apply wp_block
 refine c_loop (σ := Nat) (fun m1 a w => ∃ (t_1 : Nat), slices_Index_string_L0 n s_ v_ m1 t_1 = some r ∧ St (cx f67 M w0) [(0, sl Ap01 s_ cp01), (1, vT v_), (7, vI ((((s_).length : Nat) : Int))), (8, vI (((t_1 : Nat) : Int)))] [] [(101, sF Rep.str Ap01 cp01 s_)] a w) (fun m1 => m1) n ⟨(0), hg, (s.sb rfl rfl rfl)⟩ ?_
 clear s a; rintro m1 a w ⟨t_1, hg, s⟩
 rcases m1 with _ | m1
 ·rw [slices_Index_string_L0] at hg; cases hg
 rw [slices_Index_string_L0] at hg
 apply wR
 refine qq s rfl (y_lssN (i := t_1) (j := ((s_).length)) s rfl rfl) fun a s => ?_
 apply wN
 apply wQ
 refine c_dec s rfl (fun hc2 => ?_) (fun hc2 => ?_)
 ·replace hg := br_t hg hc2
  have hmx3 := SlR.mx (s.ft 101 rfl)
  apply wp_skip
  apply pN
  apply wQ
  apply wp_block
  apply wR
  refine mv s rfl rfl fun a s => ?_
  refine asg s rfl rfl fun a s => ?_
  apply wN
  apply wQ
  obtain ⟨x5, hx5, hg⟩ := bind_some hg
  apply wL
  refine mv s rfl rfl fun a s => ?_
  refine mv s rfl rfl fun a s => ?_
  refine mv s rfl rfl fun a s => ?_
  obtain ⟨p7, hep7, hpp7⟩ := SlR.elemX (s.ft 101 rfl) hx5
  refine qq s rfl (y_elem (sz := 1) (i := t_1) s rfl rfl underlying25 rfl hep7 rfl (lt_of_get hx5)) fun a s => ?_
  obtain ⟨hlq8, hmq8, csq8, hdq8, hcq8⟩ := hpp7
  obtain ⟨rfl, lq81⟩ := hdq8
  refine qq s rfl (y_ldp1 s rfl hlq8 hmq8 (hcq8 0 _ rfl) underlying9 rfl) fun a s => ?_
  refine qq s rfl (y_seq s rfl rfl) fun a s => ?_
  apply wN
  refine c_dec s rfl (fun hc9 => ?_) (fun hc9 => ?_)
  ·replace hg := br_t hg hc9
   apply wR
   refine mv s rfl rfl fun a s => ?_
   refine asg s rfl rfl fun a s => ?_
   apply wN
   apply wp_ret
   refine p_inR ?_
   refine p_thenR ?_
   refine p_thenR ?_
   refine p_inR ?_
   refine p_thenR ?_
   obtain rfl := Option.some.inj hg
   refine fin1 (fn := Tryz.f67) s rfl (r_tmp s rfl) ?_
   exact rfl
  replace hg := br_f hg hc9
  apply wp_skip
  refine p_inN ?_
  apply pN
  apply wL
  refine qq s rfl (y_addN (i := t_1) (j := 1) s rfl rfl (in64.2 (by omega))) fun a s => ?_
  refine mv s rfl rfl fun a s => ?_
  apply wN
  exact ⟨m1, Nat.lt_succ_self _, ⟨(t_1 + 1), hg, (s.sb rfl rfl rfl)⟩⟩
 replace hg := br_f hg hc2
 apply wp_exit
 refine p_then ?_
 refine p_then ?_
 refine p_in ?_
 apply pN
 apply wR
 refine asg s rfl rfl fun a s => ?_
 apply wN
 apply wp_ret
 obtain rfl := Option.some.inj hg
 refine fin1 (fn := Tryz.f67) s rfl (r_tmp s rfl) ?_
 exact rfl
set_option maxHeartbeats 1000000 in
theorem c_slices_Contains_string (n : Nat) (M : Bs) (w0 : World) (hM : ∀ b, M b → b < w0.heap.size) (s_ : (List (List UInt8))) (Ap01 : Option Addr) (cp01 : Nat) (hp01 : SlR Rep.str M w0 Ap01 (s_).length cp01 (s_)) (v_ : (List UInt8)) (lp11 : (v_).length ≤ 9223372036854775807) (r : Bool) (hg : slices_Contains_string n s_ v_ = some r) :
    Calls Tryz.prog 40 [.slice (Ap01) ((s_).length) (cp01), .string (bs (v_))].toArray w0 (Ret noB w0 fun v w => v = .bool (r)) := by
 unfold slices_Contains_string at hg
 refine enter M noB func40 rfl rfl hM ?_
 intro a s
 replace s := s.es 101 hp01
 apply wR
 refine asg s rfl rfl fun a s => ?_
 apply wN
 apply wQ
 obtain ⟨r1, hr1, hg⟩ := bind_some hg
 apply wL
 refine mv s rfl rfl fun a s => ?_
 refine mv s rfl rfl fun a s => ?_
 refine lc s rfl func67 (by kernel_rfl) (c_slices_Index_string n _ _ s.lt _ _ _ (s.ft 101 rfl) _ (by omega) _ hr1) fun v4 a w hK hp s => ?_
 obtain rfl := hp
 refine qq s rfl (y_geq s rfl rfl) fun a s => ?_
 refine asg s rfl rfl fun a s => ?_
 apply wN
 apply wp_ret
 obtain rfl := Option.some.inj hg
 refine fin1 (fn := Tryz.f40) s rfl (r_tmp s rfl) ?_
 exact rfl
set_option maxHeartbeats 1000000 in
theorem c_module_needs (n : Nat) (M : Bs) (w0 : World) (hM : ∀ b, M b → b < w0.heap.size) (t_ : (List Module)) (Ap01 : Option Addr) (cp01 : Nat) (hp01 : SlR RModule M w0 Ap01 (t_).length cp01 (t_)) (t_' : (List UInt8)) (lp11 : (t_').length ≤ 9223372036854775807) (r : (List (List UInt8))) (hg : module_needs n t_ t_' = some r) :
    Calls Tryz.prog 25 [.slice (Ap01) ((t_).length) (cp01), .string (bs (t_'))].toArray w0 (Ret noB w0 fun v w => ∃ (Aa1 : Option Addr), ∃ (ca1 : Nat), v = .slice (Aa1) ((r).length) (ca1) ∧ (SlR Rep.str M w Aa1 (r).length ca1 (r))) := by
 unfold module_needs at hg
 refine enter M noB func25 rfl rfl hM ?_
 intro a s
 replace s := s.es 101 hp01
 apply wR
 refine asg s rfl rfl fun a s => ?_
 apply wN
 apply wQ
 apply wQ
 obtain ⟨r1, hr1, hg⟩ := bind_some hg
 apply wL
 refine mv s rfl rfl fun a s => ?_
 refine mv s rfl rfl fun a s => ?_
 refine lc s rfl func27 (by kernel_rfl) (c_module_find n _ _ s.lt _ _ _ (s.ft 101 rfl) _ (by omega) _ hr1) fun v5 a w hK hp s => ?_
 obtain ⟨Au6a2, cu6a2, Au6a3, cu6a3, Au6a4, cu6a4, Au6a5, cu6a5, Au6a6, cu6a6, Au6a7, cu6a7, Au6a8, cu6a8, Au6a9, cu6a9, Au6a10, cu6a10, rfl, lu6a1, hu6a2, hu6a3, hu6a4, hu6a5, hu6a6, hu6a7, hu6a8, hu6a9, hu6a10⟩ := hp
 replace s := s.ns 111 hu6a2
 replace s := s.ns 112 hu6a3
 replace s := s.ns 113 hu6a4
 replace s := s.ns 114 hu6a5
 replace s := s.ns 115 hu6a6
 replace s := s.ns 116 hu6a7
 replace s := s.ns 117 hu6a8
 replace s := s.ns 118 hu6a9
 replace s := s.ns 119 hu6a10
 refine mv s rfl rfl fun a s => ?_
 refine qq s rfl (y_extract s rfl rfl) fun a s => ?_
 refine qq s rfl (y_extract s rfl rfl) fun a s => ?_
 refine l_seq rfl (l_alloc (zs := [vT ([]), .slice none 0 0, .slice none 0 0, .slice none 0 0, .slice none 0 0, .slice none 0 0, .slice none 0 0, .slice none 0 0, .slice none 0 0, .slice none 0 0]) s 1106 rfl rfl rfl rfl fun b7 a w hb hK s => ?_)
 refine l_seq rfl (l_store (n := 10) (cs' := [vT r1.1.Name, sl Au6a2 r1.1.Imports cu6a2, sl Au6a3 r1.1.Types cu6a3, sl Au6a4 r1.1.Templates cu6a4, sl Au6a5 r1.1.Entries cu6a5, sl Au6a6 r1.1.LexRules cu6a6, sl Au6a7 r1.1.Rules cu6a7, sl Au6a8 r1.1.Roots cu6a8, sl Au6a9 r1.1.Checks cu6a9, sl Au6a10 r1.1.Drops cu6a10]) s 1106 rfl rfl rfl rfl rfl rfl rfl rfl ?_); clear s; intro w hK s; clear hK
 refine asg s rfl rfl fun a s => ?_
 apply wN
 apply wR
 refine mv s rfl rfl fun a s => ?_
 refine qq s rfl (y_not s rfl) fun a s => ?_
 apply wN
 refine c_cond s rfl (fun hc8 => ?_) (fun hc8 => ?_)
 ·replace hg := br_t hg hc8
  apply wR
  refine asg s rfl rfl fun a s => ?_
  apply wN
  apply wp_ret
  refine p_thenR ?_
  obtain rfl := Option.some.inj hg
  refine fin1 (fn := Tryz.f25) s rfl (r_tmp s rfl) ?_
  exact ⟨(none), (0), rfl, (SlR.nil_ _ _ _)⟩
 replace hg := br_n hg hc8
 apply wp_skip
 apply pN
 apply wR
 refine mv s rfl rfl fun a s => ?_
 refine l_seq rfl (l_buildDense (sz := 1) s 1401 rfl rfl rfl underlying25 rfl rfl rfl rfl rfl rfl rfl fun b10 a w hbb10 hK s => ?_)
 clear hbb10
 refine asg s rfl rfl fun a s => ?_
 apply wN
 apply wQ
 apply wR
 refine asg s rfl rfl fun a s => ?_
 apply wN
 apply wp_block
 replace s := s.add 122 (rdF Rep.str (cellsOfL [vT (t_')]) ([t_'])) (RdAll.cons (by exact ⟨rfl, (by omega)⟩) (RdAll.nil _ _ _))
 replace s := s.al 121 122 rfl
 replace s := s.pk [(1106, 1106), (700120, 1401)] (by decide)
 refine c_loop (σ := Nat) (fun m1 a w => ∃ (t_11 : (List (List UInt8))) (t_15 : Nat) (A12 : Option Addr) (c13 : Nat) (cs14 : List Value), module_needs_L0 n t_ m1 t_11 t_15 = some r ∧ St (cx f25 M w0) [(0, sl Ap01 t_ cp01), (7, sl A12 t_11 c13), (8, vI (((t_15 : Nat) : Int)))] [(700120, Ob.row (A12) ((t_11).length) (c13) 9 1 (cs14))] [(101, sF RModule Ap01 cp01 t_), (121, rdF Rep.str (cs14) (t_11))] a w) (fun m1 => m1) n ⟨([t_']), (0), (some ⟨b10, 0, none⟩), (1), (cellsOfL [vT (t_')]), hg, (s.sb rfl rfl rfl)⟩ ?_
 clear s a; rintro m1 a w ⟨t_11, t_15, A12, c13, cs14, hg, s⟩
 rcases m1 with _ | m1
 ·rw [module_needs_L0] at hg; cases hg
 rw [module_needs_L0] at hg
 apply wQ
 apply wR
 refine mv s rfl rfl fun a s => ?_
 refine mv s rfl rfl fun a s => ?_
 refine qq s rfl (y_lenSlice s rfl underlying25) fun a s => ?_
 refine qq s rfl (y_lssN (i := t_15) (j := ((t_11).length)) s rfl rfl) fun a s => ?_
 apply wN
 refine c_dec s rfl (fun hc16 => ?_) (fun hc16 => ?_)
 ·replace hg := br_t hg hc16
  have hmx17 := row_mx (s.wd.holds 700120 _ rfl)
  apply wp_skip
  apply pN
  apply wQ
  obtain ⟨k18, hg, hk18⟩ := jn_some hg
  refine c_post (fun a w => ∃ (t_19 : (List (List UInt8))) (A20 : Option Addr) (c21 : Nat) (cs22 : List Value), k18 t_19 = some r ∧ St (cx f25 M w0) [(0, sl Ap01 t_ cp01), (7, sl A20 t_19 c21), (8, vI (((t_15 : Nat) : Int)))] [(700123, Ob.row (A20) ((t_19).length) (c21) 9 1 (cs22))] [(101, sF RModule Ap01 cp01 t_), (124, rdF Rep.str (cs22) (t_19))] a w) ?_ ?_
  ·apply wp_block
   apply wQ
   obtain ⟨x24, hx24, hg⟩ := bind_some hg
   obtain ⟨r26, hr26, hg⟩ := bind_some hg
   apply wL
   refine mv s rfl rfl fun a s => ?_
   refine mv s rfl rfl fun a s => ?_
   refine mv s rfl rfl fun a s => ?_
   obtain ⟨hiq30, bq30, hAq30⟩ := SlR.row1 (s.wd.holds 700120 _ rfl) (s.ft 121 rfl) rfl rfl hx24
   refine qq s rfl (y_rowIndex (sz := 1) (i := t_15) s rfl rfl underlying25 rfl hAq30 rfl hiq30) fun a s => ?_
   have hz31 := (s.ft 121 rfl).at_ _ _ hx24
   obtain ⟨ez31, lz311⟩ := hz31
   refine qq s rfl (y_loadRow1 (kk := 700120) s rfl rfl hAq30 (take1 ez31) underlying9 rfl) fun a s => ?_
   refine lc s rfl func27 (by kernel_rfl) (c_module_find n _ _ s.lt _ _ _ (s.ft 101 rfl) _ (by omega) _ hr26) fun v32 a w hK hp s => ?_
   obtain ⟨Au33a2, cu33a2, Au33a3, cu33a3, Au33a4, cu33a4, Au33a5, cu33a5, Au33a6, cu33a6, Au33a7, cu33a7, Au33a8, cu33a8, Au33a9, cu33a9, Au33a10, cu33a10, rfl, lu33a1, hu33a2, hu33a3, hu33a4, hu33a5, hu33a6, hu33a7, hu33a8, hu33a9, hu33a10⟩ := hp
   replace s := s.ns 134 hu33a2
   replace s := s.ns 135 hu33a3
   replace s := s.ns 136 hu33a4
   replace s := s.ns 137 hu33a5
   replace s := s.ns 138 hu33a6
   replace s := s.ns 139 hu33a7
   replace s := s.ns 140 hu33a8
   replace s := s.ns 141 hu33a9
   replace s := s.ns 142 hu33a10
   refine mv s rfl rfl fun a s => ?_
   refine qq s rfl (y_extract s rfl rfl) fun a s => ?_
   refine qq s rfl (y_extract s rfl rfl) fun a s => ?_
   refine l_seq rfl (l_alloc (zs := [vT ([]), .slice none 0 0, .slice none 0 0, .slice none 0 0, .slice none 0 0, .slice none 0 0, .slice none 0 0, .slice none 0 0, .slice none 0 0, .slice none 0 0]) s 1809 rfl rfl rfl rfl fun b34 a w hb hK s => ?_)
   refine l_seq rfl (l_store (n := 10) (cs' := [vT r26.1.Name, sl Au33a2 r26.1.Imports cu33a2, sl Au33a3 r26.1.Types cu33a3, sl Au33a4 r26.1.Templates cu33a4, sl Au33a5 r26.1.Entries cu33a5, sl Au33a6 r26.1.LexRules cu33a6, sl Au33a7 r26.1.Rules cu33a7, sl Au33a8 r26.1.Roots cu33a8, sl Au33a9 r26.1.Checks cu33a9, sl Au33a10 r26.1.Drops cu33a10]) s 1809 rfl rfl rfl rfl rfl rfl rfl rfl ?_); clear s; intro w hK s; clear hK
   refine asg s rfl rfl fun a s => ?_
   apply wN
   apply wR
   refine qq s rfl (y_boxField (o' := 1) s rfl underlying38 rfl rfl rfl) fun a s => ?_
   refine qq s rfl (y_loadBox1 (kk := 1809) s rfl rfl rfl underlying25 rfl) fun a s => ?_
   refine qq s rfl (y_lenSlice s rfl underlying25) fun a s => ?_
   refine mv s rfl rfl fun a s => ?_
   apply wN
   apply wp_block
   replace s := s.al 144 121 rfl
   replace s := s.pk [(1809, 1809), (700143, 700120)] (by decide)
   refine c_loop (σ := Nat) (fun m2 a w => ∃ (t_35 : (List (List UInt8))) (t_39 : Nat) (A36 : Option Addr) (c37 : Nat) (cs38 : List Value), module_needs_L1 n t_ k18 r26 m2 t_35 t_39 = some r ∧ St (cx f25 M w0) [(0, sl Ap01 t_ cp01), (7, sl A36 t_35 c37), (8, vI (((t_15 : Nat) : Int))), (41, sl Au33a2 r26.1.Imports cu33a2), (42, vI ((((r26.1.Imports).length : Nat) : Int))), (43, vI (((t_39 : Nat) : Int)))] [(700143, Ob.row (A36) ((t_35).length) (c37) 9 1 (cs38))] [(101, sF RModule Ap01 cp01 t_), (134, sF Rep.str Au33a2 cu33a2 r26.1.Imports), (144, rdF Rep.str (cs38) (t_35))] a w) (fun m2 => m2) n ⟨(t_11), (0), (A12), (c13), (cs14), hg, (s.sb rfl rfl rfl)⟩ ?_
   clear s a; rintro m2 a w ⟨t_35, t_39, A36, c37, cs38, hg, s⟩
   rcases m2 with _ | m2
   ·rw [module_needs_L1] at hg; cases hg
   rw [module_needs_L1] at hg
   apply wR
   refine qq s rfl (y_lssN (i := t_39) (j := ((r26.1.Imports).length)) s rfl rfl) fun a s => ?_
   apply wN
   apply wQ
   refine c_dec s rfl (fun hc40 => ?_) (fun hc40 => ?_)
   ·replace hg := br_t hg hc40
    have hmx41 := SlR.mx (s.ft 134 rfl)
    apply wp_skip
    apply pN
    apply wQ
    apply wp_block
    apply wQ
    obtain ⟨x43, hx43, hg⟩ := bind_some hg
    apply wL
    obtain ⟨p45, hep45, hpp45⟩ := SlR.elemX (s.ft 134 rfl) hx43
    refine qq s rfl (y_elem (sz := 1) (i := t_39) s rfl rfl underlying25 rfl hep45 rfl (lt_of_get hx43)) fun a s => ?_
    obtain ⟨hlq46, hmq46, csq46, hdq46, hcq46⟩ := hpp45
    obtain ⟨rfl, lq461⟩ := hdq46
    refine qq s rfl (y_ldp1 s rfl hlq46 hmq46 (hcq46 0 _ rfl) underlying9 rfl) fun a s => ?_
    refine asg s rfl rfl fun a s => ?_
    apply wN
    apply wQ
    obtain ⟨r47, hr47, hg⟩ := bind_some hg
    apply wL
    refine mv s rfl rfl fun a s => ?_
    refine mv s rfl rfl fun a s => ?_
    refine lc s rfl func27 (by kernel_rfl) (c_module_find n _ _ s.lt _ _ _ (s.ft 101 rfl) _ (by omega) _ hr47) fun v51 a w hK hp s => ?_
    obtain ⟨Au52a2, cu52a2, Au52a3, cu52a3, Au52a4, cu52a4, Au52a5, cu52a5, Au52a6, cu52a6, Au52a7, cu52a7, Au52a8, cu52a8, Au52a9, cu52a9, Au52a10, cu52a10, rfl, lu52a1, hu52a2, hu52a3, hu52a4, hu52a5, hu52a6, hu52a7, hu52a8, hu52a9, hu52a10⟩ := hp
    replace s := s.ns 154 hu52a2
    replace s := s.ns 155 hu52a3
    replace s := s.ns 156 hu52a4
    replace s := s.ns 157 hu52a5
    replace s := s.ns 158 hu52a6
    replace s := s.ns 159 hu52a7
    replace s := s.ns 160 hu52a8
    replace s := s.ns 161 hu52a9
    replace s := s.ns 162 hu52a10
    refine mv s rfl rfl fun a s => ?_
    refine qq s rfl (y_extract s rfl rfl) fun a s => ?_
    refine qq s rfl (y_extract s rfl rfl) fun a s => ?_
    refine l_seq rfl (l_alloc (zs := [vT ([]), .slice none 0 0, .slice none 0 0, .slice none 0 0, .slice none 0 0, .slice none 0 0, .slice none 0 0, .slice none 0 0, .slice none 0 0, .slice none 0 0]) s 2206 rfl rfl rfl rfl fun b53 a w hb hK s => ?_)
    refine l_seq rfl (l_store (n := 10) (cs' := [vT r47.1.Name, sl Au52a2 r47.1.Imports cu52a2, sl Au52a3 r47.1.Types cu52a3, sl Au52a4 r47.1.Templates cu52a4, sl Au52a5 r47.1.Entries cu52a5, sl Au52a6 r47.1.LexRules cu52a6, sl Au52a7 r47.1.Rules cu52a7, sl Au52a8 r47.1.Roots cu52a8, sl Au52a9 r47.1.Checks cu52a9, sl Au52a10 r47.1.Drops cu52a10]) s 2206 rfl rfl rfl rfl rfl rfl rfl rfl ?_); clear s; intro w hK s; clear hK
    refine asg s rfl rfl fun a s => ?_
    apply wN
    apply wQ
    obtain ⟨k54, hg, hk54⟩ := jn_some hg
    refine c_post (fun a w => ∃ (t_55 : Bool), k54 t_55 = some r ∧ St (cx f25 M w0) [(0, sl Ap01 t_ cp01), (7, sl A36 t_35 c37), (8, vI (((t_15 : Nat) : Int))), (12, vT x43), (41, sl Au33a2 r26.1.Imports cu33a2), (42, vI ((((r26.1.Imports).length : Nat) : Int))), (43, vI (((t_39 : Nat) : Int))), (59, .bool (t_55))] [(700143, Ob.row (A36) ((t_35).length) (c37) 9 1 (cs38))] [(101, sF RModule Ap01 cp01 t_), (134, sF Rep.str Au33a2 cu33a2 r26.1.Imports), (144, rdF Rep.str (cs38) (t_35))] a w) ?_ ?_
    ·rcases Bool.eq_false_or_eq_true (r47.2) with hs56 | hs56
     ·replace hg := br_t hg hs56
      obtain ⟨r57, hr57, hg⟩ := bind_some hg
      apply wL
      refine qq s rfl (yl_b (y_move s rfl) hs56) fun a s => ?_
      refine mv s rfl rfl fun a s => ?_
      refine gm s rfl rfl fun a s => ?_
      refine gm s rfl rfl fun a s => ?_
      have hT := s
      replace hT := hT.fz (R := Rep.str) (kk := 700143) [2206] 164 rfl rfl (hT.ft 144 rfl) rfl
      refine gl s rfl (l_call (cap := []) s rfl func40 rfl (by kernel_rfl) rfl rfl (c_slices_Contains_string n _ _ hT.lt _ _ _ (hT.ft 164 rfl) _ (by omega) _ hr57) fun v60 a w hK hp s => ?_)
      obtain rfl := hp
      refine gy s rfl (y_not s rfl) fun a s => ?_
      refine qq s rfl (y_pick_t s rfl rfl) fun a s => ?_
      apply wN
      exact ⟨(!(r57)), hg, (s.sb rfl rfl rfl)⟩
     replace hg := br_n hg hs56
     apply wL
     refine qq s rfl (yl_b (y_move s rfl) hs56) fun a s => ?_
     refine mv s rfl rfl fun a s => ?_
     refine gn s rfl fun a s => ?_
     refine gn s rfl fun a s => ?_
     refine gn s rfl fun a s => ?_
     refine gn s rfl fun a s => ?_
     refine qq s rfl (y_pick_f s rfl rfl) fun a s => ?_
     apply wN
     exact ⟨(false), hg, (s.sb rfl rfl rfl)⟩
    clear s a; rintro a w ⟨t_55, hg, s⟩
    subst hk54
    refine c_cond s rfl (fun hc62 => ?_) (fun hc62 => ?_)
    ·replace hg := br_t hg hc62
     obtain ⟨hk64, hg⟩ := chk_some hg
     apply wL
     refine mv s rfl rfl fun a s => ?_
     refine mv s rfl rfl fun a s => ?_
     refine l_seq rfl (l_buildDense (sz := 1) s 2402 rfl rfl rfl underlying25 rfl rfl rfl rfl rfl rfl rfl fun b67 a w hbb67 hK s => ?_)
     clear hbb67
     replace s := s.add 167 (rdF Rep.str (cellsOfL [vT x43]) ([x43])) (RdAll.cons (by exact ⟨rfl, (by omega)⟩) (RdAll.nil _ _ _))
     have hs69 := row_src (s.wd.holds 2402 _ rfl) (RdAll.one (s.ft 167 rfl))
     refine l_seq rfl (l_append (sz := 1) (by_ := 16) (N := (t_35 ++ [x43]).length) s 700143 rfl rfl rfl underlying25 rfl rfl rfl rfl rfl hs69 (by rw [List.length_append]; try rfl) rfl (rmA hk64 rfl) (rmB hk64) rfl fun Aq68 cq68 a w hA hK s => ?_)
     replace s := s.add 168 (rdF Rep.str (cs38 ++ (cellsOfL [vT x43])) (t_35 ++ [x43])) (RdAll.append (s.ft 144 rfl) (s.ft 167 rfl))
     refine asg s rfl rfl fun a s => ?_
     apply wO
     refine p_inN ?_
     apply pN
     apply wL
     refine qq s rfl (y_addN (i := t_39) (j := 1) s rfl rfl (in64.2 (by omega))) fun a s => ?_
     refine mv s rfl rfl fun a s => ?_
     apply wN
     replace s := s.al 144 168 rfl
     exact ⟨m2, Nat.lt_succ_self _, ⟨(t_35 ++ [x43]), (t_39 + 1), (Aq68), (cq68), (cs38 ++ (cellsOfL [vT x43])), hg, (s.sb rfl rfl rfl)⟩⟩
    replace hg := br_n hg hc62
    apply wp_skip
    refine p_inN ?_
    apply pN
    apply wL
    refine qq s rfl (y_addN (i := t_39) (j := 1) s rfl rfl (in64.2 (by omega))) fun a s => ?_
    refine mv s rfl rfl fun a s => ?_
    apply wN
    replace s := s.al 144 144 rfl
    exact ⟨m2, Nat.lt_succ_self _, ⟨(t_35), (t_39 + 1), (A36), (c37), (cs38), hg, (s.sb rfl rfl rfl)⟩⟩
   replace hg := br_f hg hc40
   apply wp_exit
   refine p_then ?_
   refine p_then ?_
   refine p_in ?_
   refine p_inN ?_
   apply pN
   replace s := s.al 124 144 rfl
   replace s := s.pk [(700123, 700143)] (by decide)
   exact ⟨(t_35), (A36), (c37), (cs38), hg, (s.sb rfl rfl rfl)⟩
  clear s a; rintro a w ⟨t_19, A20, c21, cs22, hg, s⟩
  subst hk18
  apply wL
  refine mv s rfl rfl fun a s => ?_
  refine qq s rfl (y_addN (i := t_15) (j := 1) s rfl rfl (in64.2 (by omega))) fun a s => ?_
  refine asg s rfl rfl fun a s => ?_
  apply wN
  replace s := s.al 121 124 rfl
  replace s := s.pk [(700120, 700123)] (by decide)
  exact ⟨m1, Nat.lt_succ_self _, ⟨(t_19), (t_15 + 1), (A20), (c21), (cs22), hg, (s.sb rfl rfl rfl)⟩⟩
 replace hg := br_f hg hc16
 apply wp_exit
 refine p_then ?_
 refine p_then ?_
 refine p_in ?_
 apply pN
 apply wR
 refine mv s rfl rfl fun a s => ?_
 refine asg s rfl rfl fun a s => ?_
 apply wN
 apply wp_ret
 obtain rfl := Option.some.inj hg
 refine fin1 (fn := Tryz.f25) s rfl (r_tmp s rfl) ?_
 exact ⟨(A12), (c13), rfl, (s.rowOut (R := Rep.str) (kk := 700120) rfl rfl (s.ft 121 rfl))⟩
end Go.Proofs.YtbhjplflnkidgaaGreat

