/- Chapter 03: the walks, part 7 -/
import Derived.Test.YtoeolfnjblibpaaW6
namespace Go.Proofs.Ytoeolfnjblibpaa
open Go.Gl Go.RowKit Try
set_option linter.unusedVariables false
set_option linter.unusedSimpArgs false
set_option maxRecDepth 4000

set_option maxHeartbeats 400000 in
theorem c_r03_Check (n : Nat) (M : Bs) (w0 : World) (hM : ∀ b, M b → b < w0.heap.size) (d_ : (List TypeDecl)) (Ap01 : Option Addr) (cp01 : Nat) (hp01 : SlR RTypeDecl M w0 Ap01 (d_).length cp01 (d_)) (r : Int) (hg : r03_Check n d_ = some r) :
    Calls Try.prog 14 [.slice (Ap01) ((d_).length) (cp01)].toArray w0 (Ret noB w0 fun v w => v = .int .i64 (r)) := by
 unfold r03_Check at hg
 refine enter M noB func14 rfl rfl hM ?_
 intro a s
 replace s := s.es 101 hp01
 apply wR
 refine asg s rfl rfl fun a s => ?_
 apply wN
 apply wQ
 apply wQ
 obtain ⟨r1, hr1, hg⟩ := bind_some hg
 apply wL
 refine mv s rfl rfl fun a s => ?_
 refine l_seq rfl (l_call (cap := []) s rfl func35 rfl (by kernel_rfl) rfl rfl (c_r03_sizes n _ _ s.lt d_ (Ap01) (cp01) (s.ft 101 rfl) r1 hr1) fun v4 a w hK hp s => ?_)
 obtain rfl := hp
 refine asg s rfl rfl fun a s => ?_
 apply wN
 apply wR
 refine mv s rfl rfl fun a s => ?_
 refine qq s rfl (y_neq s rfl rfl) fun a s => ?_
 apply wN
 refine c_dec s rfl (fun hc6 => ?_) (fun hc6 => ?_)
 ·replace hg := br_t hg hc6
  apply wR
  refine mv s rfl rfl fun a s => ?_
  refine asg s rfl rfl fun a s => ?_
  apply wN
  apply wp_ret
  refine p_thenR ?_
  obtain rfl := Option.some.inj hg
  refine fin1 (fn := Try.f14) s rfl (r_tmp s rfl) ?_
  exact rfl
 replace hg := br_f hg hc6
 apply wp_skip
 apply pN
 apply wQ
 apply wQ
 obtain ⟨r7, hr7, hg⟩ := bind_some hg
 apply wL
 refine mv s rfl rfl fun a s => ?_
 refine l_seq rfl (l_call (cap := []) s rfl func36 rfl (by kernel_rfl) rfl rfl (c_r03_names n _ _ s.lt d_ (Ap01) (cp01) (s.ft 101 rfl) r7 hr7) fun v10 a w hK hp s => ?_)
 obtain rfl := hp
 refine asg s rfl rfl fun a s => ?_
 apply wN
 apply wR
 refine mv s rfl rfl fun a s => ?_
 refine qq s rfl (y_neq s rfl rfl) fun a s => ?_
 apply wN
 refine c_dec s rfl (fun hc12 => ?_) (fun hc12 => ?_)
 ·replace hg := br_t hg hc12
  apply wR
  refine mv s rfl rfl fun a s => ?_
  refine asg s rfl rfl fun a s => ?_
  apply wN
  apply wp_ret
  refine p_thenR ?_
  obtain rfl := Option.some.inj hg
  refine fin1 (fn := Try.f14) s rfl (r_tmp s rfl) ?_
  exact rfl
 replace hg := br_f hg hc12
 apply wp_skip
 apply pN
 apply wQ
 apply wQ
 obtain ⟨r13, hr13, hg⟩ := bind_some hg
 apply wL
 refine mv s rfl rfl fun a s => ?_
 refine l_seq rfl (l_call (cap := []) s rfl func37 rfl (by kernel_rfl) rfl rfl (c_r03_supers n _ _ s.lt d_ (Ap01) (cp01) (s.ft 101 rfl) r13 hr13) fun v16 a w hK hp s => ?_)
 obtain rfl := hp
 refine asg s rfl rfl fun a s => ?_
 apply wN
 apply wR
 refine mv s rfl rfl fun a s => ?_
 refine qq s rfl (y_neq s rfl rfl) fun a s => ?_
 apply wN
 refine c_dec s rfl (fun hc18 => ?_) (fun hc18 => ?_)
 ·replace hg := br_t hg hc18
  apply wR
  refine mv s rfl rfl fun a s => ?_
  refine asg s rfl rfl fun a s => ?_
  apply wN
  apply wp_ret
  refine p_thenR ?_
  obtain rfl := Option.some.inj hg
  refine fin1 (fn := Try.f14) s rfl (r_tmp s rfl) ?_
  exact rfl
 replace hg := br_f hg hc18
 apply wp_skip
 apply pN
 apply wR
 refine asg s rfl rfl fun a s => ?_
 apply wN
 apply wQ
 apply wR
 refine asg s rfl rfl fun a s => ?_
 apply wN
 obtain ⟨k19, hg, hk19⟩ := jn_some hg
 refine c_post (fun a w => ∃ (n_20 : Nat), k19 n_20 = some r ∧ St (⟨Try.f14.ntmps, M, noB, w0⟩ : Ctx) [(0, sl Ap01 (d_) cp01), (6, vI (((n_20 : Nat) : Int)))] [] [(101, slF RTypeDecl (Ap01) ((d_).length) (cp01) (d_))] a w) ?_ ?_
 ·apply wp_block
  refine c_loop (σ := Nat) (fun m1 a w => ∃ (n_21 : Nat) (i_22 : Nat), r03_Check_L0 n d_ k19 m1 n_21 i_22 = some r ∧ St (⟨Try.f14.ntmps, M, noB, w0⟩ : Ctx) [(0, sl Ap01 (d_) cp01), (6, vI (((n_21 : Nat) : Int))), (7, vI (((i_22 : Nat) : Int)))] [] [(101, slF RTypeDecl (Ap01) ((d_).length) (cp01) (d_))] a w) (fun m1 => m1) n ⟨(0), (0), hg, (s.sb rfl rfl rfl)⟩ ?_
  clear s a; rintro m1 a w ⟨n_21, i_22, hg, s⟩
  rcases m1 with _ | m1
  ·rw [r03_Check_L0] at hg; cases hg
  rw [r03_Check_L0] at hg
  apply wQ
  apply wR
  refine mv s rfl rfl fun a s => ?_
  refine mv s rfl rfl fun a s => ?_
  refine qq s rfl (y_lenSlice s rfl underlying22) fun a s => ?_
  refine qq s rfl (y_lssN (i := i_22) (j := ((d_).length)) s rfl rfl) fun a s => ?_
  apply wN
  refine c_dec s rfl (fun hc23 => ?_) (fun hc23 => ?_)
  ·replace hg := br_t hg hc23
   have hmx24 := SlR.mx (s.ft 101 rfl)
   apply wp_skip
   apply pN
   apply wQ
   apply wp_block
   apply wQ
   obtain ⟨x26, hx26, hg⟩ := bind_some hg
   apply wL
   refine mv s rfl rfl fun a s => ?_
   refine mv s rfl rfl fun a s => ?_
   obtain ⟨p28, hep28, hpp28⟩ := SlR.elemX (s.ft 101 rfl) hx26
   refine qq s rfl (y_elem (sz := 3) (i := i_22) s rfl rfl underlying22 rfl hep28 rfl (lt_of_get hx26)) fun a s => ?_
   refine qq s rfl (y_ptrField (o' := 1) s rfl underlying40 rfl rfl rfl) fun a s => ?_
   obtain ⟨hlq29, hmq29, csq29, hdq29, hcq29⟩ := hpp28
   obtain ⟨Aq292, cq292, Aq293, cq293, rfl, lq291, hq292, hq293⟩ := RTypeDecl.open hdq29
   replace s := s.ns 104 hq292
   replace s := s.ns 105 hq293
   refine qq s rfl (y_ldp1 s rfl hlq29 hmq29 (hcq29 1 _ rfl) underlying27 rfl) fun a s => ?_
   refine qq s rfl (y_lenSlice s rfl underlying27) fun a s => ?_
   refine qq s rfl (y_eqlN (i := ((x26.Supers).length)) (j := 0) s rfl rfl) fun a s => ?_
   apply wN
   refine c_dec s rfl (fun hc30 => ?_) (fun hc30 => ?_)
   ·replace hg := br_t hg hc30
    obtain ⟨hk31, hg⟩ := chk_some hg
    apply wL
    refine mv s rfl rfl fun a s => ?_
    refine qq s rfl (y_addN (i := n_21) (j := 1) s rfl rfl (in64.2 (by omega))) fun a s => ?_
    refine asg s rfl rfl fun a s => ?_
    apply wO
    refine p_inN ?_
    apply pN
    apply wL
    refine mv s rfl rfl fun a s => ?_
    refine qq s rfl (y_addN (i := i_22) (j := 1) s rfl rfl (in64.2 (by omega))) fun a s => ?_
    refine asg s rfl rfl fun a s => ?_
    apply wN
    exact ⟨m1, Nat.lt_succ_self _, ⟨(n_21 + 1), (i_22 + 1), hg, (s.sb rfl rfl rfl)⟩⟩
   replace hg := br_f hg hc30
   apply wp_skip
   refine p_inN ?_
   apply pN
   apply wL
   refine mv s rfl rfl fun a s => ?_
   refine qq s rfl (y_addN (i := i_22) (j := 1) s rfl rfl (in64.2 (by omega))) fun a s => ?_
   refine asg s rfl rfl fun a s => ?_
   apply wN
   exact ⟨m1, Nat.lt_succ_self _, ⟨(n_21), (i_22 + 1), hg, (s.sb rfl rfl rfl)⟩⟩
  replace hg := br_f hg hc23
  apply wp_exit
  refine p_then ?_
  refine p_then ?_
  refine p_in ?_
  apply pN
  exact ⟨(n_21), hg, (s.sb rfl rfl rfl)⟩
 clear s a; rintro a w ⟨n_20, hg, s⟩
 subst hk19
 apply wQ
 apply wR
 refine mv s rfl rfl fun a s => ?_
 refine qq s rfl (y_neqN (i := n_20) (j := 1) s rfl rfl) fun a s => ?_
 apply wN
 refine c_dec s rfl (fun hc32 => ?_) (fun hc32 => ?_)
 ·replace hg := br_t hg hc32
  apply wR
  refine asg s rfl rfl fun a s => ?_
  apply wN
  apply wp_ret
  refine p_thenR ?_
  obtain rfl := Option.some.inj hg
  refine fin1 (fn := Try.f14) s rfl (r_tmp s rfl) ?_
  exact rfl
 replace hg := br_f hg hc32
 apply wp_skip
 apply pN
 apply wQ
 apply wQ
 obtain ⟨r33, hr33, hg⟩ := bind_some hg
 apply wL
 refine mv s rfl rfl fun a s => ?_
 refine l_seq rfl (l_call (cap := []) s rfl func38 rfl (by kernel_rfl) rfl rfl (c_r03_placed n _ _ s.lt d_ (Ap01) (cp01) (s.ft 101 rfl) r33 hr33) fun v36 a w hK hp s => ?_)
 obtain ⟨Au37a1, cu37a1, rfl, hu37a1⟩ := hp
 replace s := s.ns 107 hu37a1
 refine qq s rfl (y_lenSlice s rfl underlying27) fun a s => ?_
 refine mv s rfl rfl fun a s => ?_
 refine qq s rfl (y_lenSlice s rfl underlying22) fun a s => ?_
 refine qq s rfl (y_lssN (i := ((r33).length)) (j := ((d_).length)) s rfl rfl) fun a s => ?_
 apply wN
 refine c_dec s rfl (fun hc38 => ?_) (fun hc38 => ?_)
 ·replace hg := br_t hg hc38
  have hmx39 := SlR.mx (s.ft 101 rfl)
  apply wR
  refine asg s rfl rfl fun a s => ?_
  apply wN
  apply wp_ret
  refine p_thenR ?_
  obtain rfl := Option.some.inj hg
  refine fin1 (fn := Try.f14) s rfl (r_tmp s rfl) ?_
  exact rfl
 replace hg := br_f hg hc38
 apply wp_skip
 apply pN
 apply wR
 refine asg s rfl rfl fun a s => ?_
 apply wN
 apply wp_ret
 obtain rfl := Option.some.inj hg
 refine fin1 (fn := Try.f14) s rfl (r_tmp s rfl) ?_
 exact rfl
set_option maxHeartbeats 400000 in
theorem c_r03_Order (n : Nat) (M : Bs) (w0 : World) (hM : ∀ b, M b → b < w0.heap.size) (d_ : (List TypeDecl)) (Ap01 : Option Addr) (cp01 : Nat) (hp01 : SlR RTypeDecl M w0 Ap01 (d_).length cp01 (d_)) (r : ((List (List UInt8)) × Int)) (hg : r03_Order n d_ = some r) :
    Calls Try.prog 16 [.slice (Ap01) ((d_).length) (cp01)].toArray w0 (Ret noB w0 fun v w => ∃ (Aa1 : Option Addr), ∃ (ca1 : Nat), v = .tuple #[.slice (Aa1) ((r.1).length) (ca1), .int .i64 (r.2)] ∧ (SlR Rep.str M w Aa1 (r.1).length ca1 (r.1))) := by
 unfold r03_Order at hg
 refine enter M noB func16 rfl rfl hM ?_
 intro a s
 replace s := s.es 101 hp01
 apply wR
 refine asg s rfl rfl fun a s => ?_
 refine asg s rfl rfl fun a s => ?_
 apply wN
 apply wQ
 apply wQ
 obtain ⟨r1, hr1, hg⟩ := bind_some hg
 apply wL
 refine mv s rfl rfl fun a s => ?_
 refine l_seq rfl (l_call (cap := []) s rfl func14 rfl (by kernel_rfl) rfl rfl (c_r03_Check n _ _ s.lt d_ (Ap01) (cp01) (s.ft 101 rfl) r1 hr1) fun v4 a w hK hp s => ?_)
 obtain rfl := hp
 refine asg s rfl rfl fun a s => ?_
 apply wN
 apply wR
 refine mv s rfl rfl fun a s => ?_
 refine qq s rfl (y_neq s rfl rfl) fun a s => ?_
 apply wN
 refine c_dec s rfl (fun hc6 => ?_) (fun hc6 => ?_)
 ·replace hg := br_t hg hc6
  apply wR
  refine mv s rfl rfl fun a s => ?_
  refine asg s rfl rfl fun a s => ?_
  refine asg s rfl rfl fun a s => ?_
  apply wN
  apply wp_ret
  refine p_thenR ?_
  obtain rfl := Option.some.inj hg
  refine fin2 (fn := Try.f16) s rfl (r_tmp s rfl) (r_tmp s rfl) ?_
  exact ⟨(none), (0), rfl, (SlR.nil_ _ _ _)⟩
 replace hg := br_f hg hc6
 apply wp_skip
 apply pN
 apply wQ
 obtain ⟨r7, hr7, hg⟩ := bind_some hg
 apply wL
 refine mv s rfl rfl fun a s => ?_
 refine l_seq rfl (l_call (cap := []) s rfl func38 rfl (by kernel_rfl) rfl rfl (c_r03_placed n _ _ s.lt d_ (Ap01) (cp01) (s.ft 101 rfl) r7 hr7) fun v10 a w hK hp s => ?_)
 obtain ⟨Au11a1, cu11a1, rfl, hu11a1⟩ := hp
 replace s := s.ns 103 hu11a1
 refine asg s rfl rfl fun a s => ?_
 refine asg s rfl rfl fun a s => ?_
 apply wN
 apply wp_ret
 obtain rfl := Option.some.inj hg
 refine fin2 (fn := Try.f16) s rfl (r_tmp s rfl) (r_tmp s rfl) ?_
 exact ⟨(Au11a1), (cu11a1), rfl, (s.out (k := 103) rfl)⟩
set_option maxHeartbeats 400000 in
theorem c_law03_valid (n : Nat) (M : Bs) (w0 : World) (hM : ∀ b, M b → b < w0.heap.size) (d_ : (List TypeDecl)) (Ap01 : Option Addr) (cp01 : Nat) (hp01 : SlR RTypeDecl M w0 Ap01 (d_).length cp01 (d_)) (r : Bool) (hg : law03_valid n d_ = some r) :
    Calls Try.prog 18 [.slice (Ap01) ((d_).length) (cp01)].toArray w0 (Ret noB w0 fun v w => v = .bool (r)) := by
 unfold law03_valid at hg
 refine enter M noB func18 rfl rfl hM ?_
 intro a s
 replace s := s.es 101 hp01
 apply wR
 refine asg s rfl rfl fun a s => ?_
 apply wN
 apply wQ
 obtain ⟨r1, hr1, hg⟩ := bind_some hg
 rcases Bool.eq_false_or_eq_true (r1) with hs4 | hs4
 ·replace hg := br_t hg hs4
  obtain ⟨r5, hr5, hg⟩ := bind_some hg
  apply wL
  refine mv s rfl rfl fun a s => ?_
  refine l_seq rfl (l_call (cap := []) s rfl func11 rfl (by kernel_rfl) rfl rfl (c_r03_Light n _ _ s.lt d_ (Ap01) (cp01) (s.ft 101 rfl) r1 hr1) fun v8 a w hK hp s => ?_)
  obtain rfl := hp.trans (congrArg Value.bool hs4)
  refine mv s rfl rfl fun a s => ?_
  refine gm s rfl rfl fun a s => ?_
  refine gl s rfl (l_call (cap := []) s rfl func14 rfl (by kernel_rfl) rfl rfl (c_r03_Check n _ _ s.lt d_ (Ap01) (cp01) (s.ft 101 rfl) r5 hr5) fun v10 a w hK hp s => ?_)
  obtain rfl := hp
  refine gy s rfl (y_eql s rfl rfl) fun a s => ?_
  refine qq s rfl (y_pick_t s rfl rfl) fun a s => ?_
  refine asg s rfl rfl fun a s => ?_
  apply wN
  apply wp_ret
  obtain rfl := Option.some.inj hg
  refine fin1 (fn := Try.f18) s rfl (r_tmp s rfl) ?_
  exact rfl
 replace hg := br_n hg hs4
 apply wL
 refine mv s rfl rfl fun a s => ?_
 refine l_seq rfl (l_call (cap := []) s rfl func11 rfl (by kernel_rfl) rfl rfl (c_r03_Light n _ _ s.lt d_ (Ap01) (cp01) (s.ft 101 rfl) r1 hr1) fun v12 a w hK hp s => ?_)
 obtain rfl := hp.trans (congrArg Value.bool hs4)
 refine mv s rfl rfl fun a s => ?_
 refine gn s rfl fun a s => ?_
 refine gn s rfl fun a s => ?_
 refine gn s rfl fun a s => ?_
 refine qq s rfl (y_pick_f s rfl rfl) fun a s => ?_
 refine asg s rfl rfl fun a s => ?_
 apply wN
 apply wp_ret
 obtain rfl := Option.some.inj hg
 refine fin1 (fn := Try.f18) s rfl (r_tmp s rfl) ?_
 exact rfl
set_option maxHeartbeats 400000 in
theorem c_r03_Put (n : Nat) (M : Bs) (w0 : World) (hM : ∀ b, M b → b < w0.heap.size) (C : Bs) (l_ : (List (List UInt8))) (Ap01 : Option Addr) (cp01 : Nat) (csp00 : List Value) (s_ : (List UInt8)) (lp11 : (s_).length ≤ 9223372036854775807) (hW : Wd ⟨0, M, C, w0⟩ [(9200000, Ob.row (Ap01) ((l_).length) (cp01) 9 1 (csp00))] [(9300000, rdF Rep.str (csp00) (l_))] w0) (r : (List (List UInt8))) (hg : r03_Put n l_ s_ = some r) :
    Calls Try.prog 39 [.slice (Ap01) ((l_).length) (cp01), .string (bs (s_))].toArray w0 (Ret C w0 fun v w => ∃ (Ao : Option Addr), ∃ (co : Nat), ∃ (cso : List Value), v = .slice (Ao) ((r).length) (co) ∧ (Wd ⟨0, M, C, w0⟩ [(9200000, Ob.row (Ao) ((r).length) (co) 9 1 (cso))] [(9300000, rdF Rep.str (cso) (r))] w)) := by
 unfold r03_Put at hg
 refine enterL M C func39 rfl rfl hW ?_
 intro a s
 apply wR
 refine asg s rfl rfl fun a s => ?_
 apply wN
 apply wR
 refine asg s rfl rfl fun a s => ?_
 apply wN
 apply wR
 refine asg s rfl rfl fun a s => ?_
 apply wN
 apply wQ
 obtain ⟨k1, hg, hk1⟩ := jn_some hg
 refine c_post (fun a w => ∃ (at_2 : Nat), k1 at_2 = some r ∧ St (⟨Try.f39.ntmps, M, C, w0⟩ : Ctx) [(0, sl Ap01 (l_) cp01), (1, vT s_), (5, .slice (none) (0) (0)), (6, vI (((at_2 : Nat) : Int)))] [(9200000, Ob.row (Ap01) ((l_).length) (cp01) 9 1 (csp00))] [(9300000, rdF Rep.str (csp00) (l_))] a w) ?_ ?_
 ·apply wp_block
  refine c_loop (σ := Nat) (fun m1 a w => ∃ (at_3 : Nat), r03_Put_L0 n l_ s_ k1 m1 at_3 = some r ∧ St (⟨Try.f39.ntmps, M, C, w0⟩ : Ctx) [(0, sl Ap01 (l_) cp01), (1, vT s_), (5, .slice (none) (0) (0)), (6, vI (((at_3 : Nat) : Int)))] [(9200000, Ob.row (Ap01) ((l_).length) (cp01) 9 1 (csp00))] [(9300000, rdF Rep.str (csp00) (l_))] a w) (fun m1 => m1) n ⟨(0), hg, (s.sb rfl rfl rfl)⟩ ?_
  clear s a; rintro m1 a w ⟨at_3, hg, s⟩
  rcases m1 with _ | m1
  ·rw [r03_Put_L0] at hg; cases hg
  rw [r03_Put_L0] at hg
  apply wQ
  apply wQ
  obtain ⟨k4, hg, hk4⟩ := jn_some hg
  refine c_post (fun a w => ∃ (t_5 : Bool), k4 t_5 = some r ∧ St (⟨Try.f39.ntmps, M, C, w0⟩ : Ctx) [(0, sl Ap01 (l_) cp01), (1, vT s_), (5, .slice (none) (0) (0)), (6, vI (((at_3 : Nat) : Int))), (18, .bool (t_5))] [(9200000, Ob.row (Ap01) ((l_).length) (cp01) 9 1 (csp00))] [(9300000, rdF Rep.str (csp00) (l_))] a w) ?_ ?_
  ·rcases Decidable.em (at_3 < ((l_).length)) with hs6 | hs6
   ·have hs6e := decide_eq_true hs6
    replace hg := br_t hg hs6
    have hmx7 := row_mx (s.wd.holds 9200000 _ rfl)
    obtain ⟨x9, hx9, hg⟩ := bind_some hg
    apply wL
    refine mv s rfl rfl fun a s => ?_
    refine mv s rfl rfl fun a s => ?_
    refine qq s rfl (y_lenSlice s rfl underlying27) fun a s => ?_
    refine qq s rfl (yl_b (y_lssN (i := at_3) (j := ((l_).length)) s rfl rfl) hs6e) fun a s => ?_
    refine mv s rfl rfl fun a s => ?_
    refine gm s rfl rfl fun a s => ?_
    refine gm s rfl rfl fun a s => ?_
    obtain ⟨hiq11, bq11, hAq11⟩ := SlR.row1 (s.wd.holds 9200000 _ rfl) (s.ft 9300000 rfl) rfl rfl hx9
    refine gy s rfl (y_rowIndex (sz := 1) (i := at_3) s rfl rfl underlying27 rfl hAq11 rfl hiq11) fun a s => ?_
    have hz12 := (s.ft 9300000 rfl).at_ _ _ hx9
    obtain ⟨ez12, lz121⟩ := hz12
    refine gy s rfl (y_loadRow1 (kk := 9200000) s rfl rfl hAq11 (take1 ez12) underlying9 rfl) fun a s => ?_
    refine gm s rfl rfl fun a s => ?_
    refine gy s rfl (y_slss s rfl rfl) fun a s => ?_
    refine qq s rfl (y_pick_t s rfl rfl) fun a s => ?_
    apply wN
    exact ⟨(Op.bytesLess x9 s_), hg, (s.sb rfl rfl rfl)⟩
   have hs6e := decide_eq_false hs6
   replace hg := br_f hg hs6
   apply wL
   refine mv s rfl rfl fun a s => ?_
   refine mv s rfl rfl fun a s => ?_
   refine qq s rfl (y_lenSlice s rfl underlying27) fun a s => ?_
   refine qq s rfl (yl_b (y_lssN (i := at_3) (j := ((l_).length)) s rfl rfl) hs6e) fun a s => ?_
   refine mv s rfl rfl fun a s => ?_
   refine gn s rfl fun a s => ?_
   refine gn s rfl fun a s => ?_
   refine gn s rfl fun a s => ?_
   refine gn s rfl fun a s => ?_
   refine gn s rfl fun a s => ?_
   refine gn s rfl fun a s => ?_
   refine qq s rfl (y_pick_f s rfl rfl) fun a s => ?_
   apply wN
   exact ⟨(false), hg, (s.sb rfl rfl rfl)⟩
  clear s a; rintro a w ⟨t_5, hg, s⟩
  subst hk4
  refine c_cond s rfl (fun hc13 => ?_) (fun hc13 => ?_)
  ·replace hg := br_t hg hc13
   apply wp_skip
   apply pN
   apply wp_block
   obtain ⟨hk14, hg⟩ := chk_some hg
   apply wL
   refine mv s rfl rfl fun a s => ?_
   refine qq s rfl (y_addN (i := at_3) (j := 1) s rfl rfl (in64.2 (by omega))) fun a s => ?_
   refine asg s rfl rfl fun a s => ?_
   apply wO
   refine p_inN ?_
   apply pN
   exact ⟨m1, Nat.lt_succ_self _, ⟨(at_3 + 1), hg, (s.sb rfl rfl rfl)⟩⟩
  replace hg := br_n hg hc13
  apply wp_exit
  refine p_then ?_
  refine p_then ?_
  refine p_in ?_
  apply pN
  exact ⟨(at_3), hg, (s.sb rfl rfl rfl)⟩
 clear s a; rintro a w ⟨at_2, hg, s⟩
 subst hk1
 apply wQ
 apply wQ
 obtain ⟨k15, hg, hk15⟩ := jn_some hg
 refine c_post (fun a w => ∃ (t_16 : Bool), k15 t_16 = some r ∧ St (⟨Try.f39.ntmps, M, C, w0⟩ : Ctx) [(0, sl Ap01 (l_) cp01), (1, vT s_), (5, .slice (none) (0) (0)), (6, vI (((at_2 : Nat) : Int))), (32, .bool (t_16))] [(9200000, Ob.row (Ap01) ((l_).length) (cp01) 9 1 (csp00))] [(9300000, rdF Rep.str (csp00) (l_))] a w) ?_ ?_
 ·rcases Decidable.em (at_2 < ((l_).length)) with hs17 | hs17
  ·have hs17e := decide_eq_true hs17
   replace hg := br_t hg hs17
   have hmx18 := row_mx (s.wd.holds 9200000 _ rfl)
   obtain ⟨x20, hx20, hg⟩ := bind_some hg
   apply wL
   refine mv s rfl rfl fun a s => ?_
   refine mv s rfl rfl fun a s => ?_
   refine qq s rfl (y_lenSlice s rfl underlying27) fun a s => ?_
   refine qq s rfl (yl_b (y_lssN (i := at_2) (j := ((l_).length)) s rfl rfl) hs17e) fun a s => ?_
   refine mv s rfl rfl fun a s => ?_
   refine gm s rfl rfl fun a s => ?_
   refine gm s rfl rfl fun a s => ?_
   obtain ⟨hiq22, bq22, hAq22⟩ := SlR.row1 (s.wd.holds 9200000 _ rfl) (s.ft 9300000 rfl) rfl rfl hx20
   refine gy s rfl (y_rowIndex (sz := 1) (i := at_2) s rfl rfl underlying27 rfl hAq22 rfl hiq22) fun a s => ?_
   have hz23 := (s.ft 9300000 rfl).at_ _ _ hx20
   obtain ⟨ez23, lz231⟩ := hz23
   refine gy s rfl (y_loadRow1 (kk := 9200000) s rfl rfl hAq22 (take1 ez23) underlying9 rfl) fun a s => ?_
   refine gm s rfl rfl fun a s => ?_
   refine gy s rfl (y_seq s rfl rfl) fun a s => ?_
   refine qq s rfl (y_pick_t s rfl rfl) fun a s => ?_
   apply wN
   exact ⟨(decide ((x20 : List UInt8) = s_)), hg, (s.sb rfl rfl rfl)⟩
  have hs17e := decide_eq_false hs17
  replace hg := br_f hg hs17
  apply wL
  refine mv s rfl rfl fun a s => ?_
  refine mv s rfl rfl fun a s => ?_
  refine qq s rfl (y_lenSlice s rfl underlying27) fun a s => ?_
  refine qq s rfl (yl_b (y_lssN (i := at_2) (j := ((l_).length)) s rfl rfl) hs17e) fun a s => ?_
  refine mv s rfl rfl fun a s => ?_
  refine gn s rfl fun a s => ?_
  refine gn s rfl fun a s => ?_
  refine gn s rfl fun a s => ?_
  refine gn s rfl fun a s => ?_
  refine gn s rfl fun a s => ?_
  refine gn s rfl fun a s => ?_
  refine qq s rfl (y_pick_f s rfl rfl) fun a s => ?_
  apply wN
  exact ⟨(false), hg, (s.sb rfl rfl rfl)⟩
 clear s a; rintro a w ⟨t_16, hg, s⟩
 subst hk15
 refine c_cond s rfl (fun hc24 => ?_) (fun hc24 => ?_)
 ·replace hg := br_t hg hc24
  apply wR
  refine mv s rfl rfl fun a s => ?_
  refine asg s rfl rfl fun a s => ?_
  apply wN
  apply wp_ret
  refine p_thenR ?_
  replace s := s.al 9300000 9300000 rfl
  obtain rfl := Option.some.inj hg
  refine fin1 (fn := Try.f39) s rfl (r_tmp s rfl) ?_
  exact ⟨(Ap01), (cp01), (csp00), rfl, ((s.ren [(9200000, Ob.row (Ap01) ((l_).length) (cp01) 9 1 (csp00))] [9200000] ⟨rfl, trivial⟩ (by decide)).outL ⟨rfl, trivial⟩ ⟨rfl, trivial⟩)⟩
 replace hg := br_n hg hc24
 apply wp_skip
 apply pN
 apply wQ
 obtain ⟨hk25, hg⟩ := chk_some hg
 obtain ⟨hk26, hg⟩ := chk_some hg
 apply wL
 refine mv s rfl rfl fun a s => ?_
 refine mv s rfl rfl fun a s => ?_
 refine mv s rfl rfl fun a s => ?_
 replace s := s.freeze (R := Rep.str) (kk := 9200000) (L' := []) 106 rfl rfl (s.ft 9300000 rfl) trivial rfl
 have hcap107 := (s.ft 106 rfl).cap
 refine qq s rfl (y_cutH (xs := l_) (sz := 1) (i := at_2) s rfl rfl underlying27 rfl rfl hk25 hcap107) fun a s => ?_
 replace s := s.add 107 (slF Rep.str (Ap01) (((l_).take at_2).length) (cp01) ((l_).take at_2)) (SlR.cutH (s.ft 106 rfl) at_2 hk25)
 replace s := s.nilRow 501704 9 1 rfl
 replace s := s.add 108 (rdF Rep.str ([]) ([])) (RdAll.nil _ _ _)
 obtain ⟨ns30, hs30, hns30⟩ := SlR.src (s.ft 107 rfl)
 replace s := s.add 109 (rdF Rep.str ns30 ((l_).take at_2)) hns30
 refine l_seq rfl (l_append (sz := 1) (by_ := 16) (N := ((l_).take at_2).length) (ys := ns30) s 501704 rfl rfl rfl underlying27 rfl rfl rfl rfl rfl hs30 (by first | (simp; done) | (simp; omega)) rfl (by have hr := hk26; clear hg; first | omega | (simp only [List.length_append, List.length_cons, List.length_nil] at hr ⊢; omega) | (simp at hr ⊢; omega)) (by have hr := hk26; clear hg; first | omega | (simp only [List.length_append, List.length_cons, List.length_nil] at hr ⊢; omega) | (simp at hr ⊢; omega)) rfl fun Aq29 cq29 a w hA hK s => ?_)
 replace s := s.al 110 109 rfl
 refine asg s rfl rfl fun a s => ?_
 apply wN
 apply wQ
 obtain ⟨hk32, hg⟩ := chk_some hg
 apply wL
 refine mv s rfl rfl fun a s => ?_
 refine mv s rfl rfl fun a s => ?_
 refine l_seq rfl (l_buildDense (sz := 1) s 1802 rfl rfl rfl underlying27 rfl rfl rfl rfl rfl rfl rfl fun b35 a w hbb35 hK s => ?_)
 clear hbb35
 replace s := s.add 113 (rdF Rep.str (cellsOfL [vT s_]) ([s_])) (RdAll.cons (by exact ⟨rfl, (by omega)⟩) (RdAll.nil _ _ _))
 have hs37 := row_src (s.wd.holds 1802 _ rfl) (RdAll.one (s.ft 113 rfl))
 refine l_seq rfl (l_append (sz := 1) (by_ := 16) (N := (((l_).take at_2) ++ [s_]).length) (ys := ns30 ++ (cellsOfL [vT s_])) s 501704 rfl rfl rfl underlying27 rfl rfl rfl rfl rfl hs37 (by first | (simp; done) | (simp; omega)) rfl (by have hr := hk32; clear hg; first | omega | (simp only [List.length_append, List.length_cons, List.length_nil] at hr ⊢; omega) | (simp at hr ⊢; omega)) (by have hr := hk32; clear hg; first | omega | (simp only [List.length_append, List.length_cons, List.length_nil] at hr ⊢; omega) | (simp at hr ⊢; omega)) rfl fun Aq36 cq36 a w hA hK s => ?_)
 replace s := s.add 114 (rdF Rep.str (ns30 ++ (cellsOfL [vT s_])) (((l_).take at_2) ++ [s_])) (RdAll.append (s.ft 110 rfl) (s.ft 113 rfl))
 refine asg s rfl rfl fun a s => ?_
 apply wN
 apply wQ
 obtain ⟨hk38, hg⟩ := chk_some hg
 apply wL
 refine mv s rfl rfl fun a s => ?_
 refine mv s rfl rfl fun a s => ?_
 refine mv s rfl rfl fun a s => ?_
 have hcap118 := (s.ft 106 rfl).cap
 refine qq s rfl (y_cutL (xs := l_) (sz := 1) (i := at_2) s rfl rfl underlying27 rfl rfl hk25 hcap118) fun a s => ?_
 replace s := s.add 118 (slF Rep.str (if cp01 = at_2 then Ap01 else (Ap01).map (·.add (at_2 * 1))) (((l_).drop at_2).length) (cp01 - at_2) ((l_).drop at_2)) (SlR.cutL (s.ft 106 rfl) at_2 hk25)
 obtain ⟨ns42, hs42, hns42⟩ := SlR.src (s.ft 118 rfl)
 replace s := s.add 119 (rdF Rep.str ns42 ((l_).drop at_2)) hns42
 refine l_seq rfl (l_append (sz := 1) (by_ := 16) (N := ((((l_).take at_2) ++ [s_]) ++ ((l_).drop at_2)).length) (ys := (ns30 ++ (cellsOfL [vT s_])) ++ ns42) s 501704 rfl rfl rfl underlying27 rfl rfl rfl rfl rfl hs42 (by first | (simp; done) | (simp; omega)) rfl (by have hr := hk38; clear hg; first | omega | (simp only [List.length_append, List.length_cons, List.length_nil] at hr ⊢; omega) | (simp at hr ⊢; omega)) (by have hr := hk38; clear hg; first | omega | (simp only [List.length_append, List.length_cons, List.length_nil] at hr ⊢; omega) | (simp at hr ⊢; omega)) rfl fun Aq41 cq41 a w hA hK s => ?_)
 replace s := s.add 120 (rdF Rep.str ((ns30 ++ (cellsOfL [vT s_])) ++ ns42) ((((l_).take at_2) ++ [s_]) ++ ((l_).drop at_2))) (RdAll.append (s.ft 114 rfl) (s.ft 119 rfl))
 refine asg s rfl rfl fun a s => ?_
 apply wN
 apply wp_ret
 replace s := s.add 9300000 (rdF Rep.str ((ns30 ++ (cellsOfL [vT s_])) ++ ns42) ((((l_).take at_2) ++ [s_]) ++ ((l_).drop at_2))) (s.ft 120 rfl)
 obtain rfl := Option.some.inj hg
 refine fin1 (fn := Try.f39) s rfl (r_tmp s rfl) ?_
 exact ⟨(Aq41), (cq41), ((ns30 ++ (cellsOfL [vT s_])) ++ ns42), rfl, ((s.ren [(9200000, Ob.row (Aq41) (((((l_).take at_2) ++ [s_]) ++ ((l_).drop at_2)).length) (cq41) 9 1 ((ns30 ++ (cellsOfL [vT s_])) ++ ns42))] [501704] ⟨rfl, trivial⟩ (by decide)).outL ⟨rfl, trivial⟩ ⟨rfl, trivial⟩)⟩
set_option maxHeartbeats 400000 in
theorem c_r03_Names (n : Nat) (M : Bs) (w0 : World) (hM : ∀ b, M b → b < w0.heap.size) (d_ : (List TypeDecl)) (Ap01 : Option Addr) (cp01 : Nat) (hp01 : SlR RTypeDecl M w0 Ap01 (d_).length cp01 (d_)) (r : (List (List UInt8))) (hg : r03_Names n d_ = some r) :
    Calls Try.prog 19 [.slice (Ap01) ((d_).length) (cp01)].toArray w0 (Ret noB w0 fun v w => ∃ (Ao : Option Addr), ∃ (co : Nat), ∃ (cso : List Value), v = .slice (Ao) ((r).length) (co) ∧ ((Ob.row Ao (r).length co 9 1 cso).holds w) ∧ (∀ b, (Ob.row Ao (r).length co 9 1 cso).ids b → w0.heap.size ≤ b) ∧ (RdAll Rep.str (fun b => M b ∨ (Ob.row Ao (r).length co 9 1 cso).ids b) w cso (r))) := by
 unfold r03_Names at hg
 refine enter M noB func19 rfl rfl hM ?_
 intro a s
 replace s := s.es 101 hp01
 apply wR
 refine asg s rfl rfl fun a s => ?_
 apply wN
 apply wR
 refine asg s rfl rfl fun a s => ?_
 apply wN
 apply wQ
 apply wR
 refine asg s rfl rfl fun a s => ?_
 apply wN
 apply wp_block
 replace s := s.nilRow 700102 9 1 rfl
 replace s := s.add 103 (rdF Rep.str [] []) (RdAll.nil _ _ _)
 refine c_loop (σ := Nat) (fun m1 a w => ∃ (out_1 : (List (List UInt8))) (i_5 : Nat) (A2 : Option Addr) (c3 : Nat) (cs4 : List Value), r03_Names_L0 n d_ m1 out_1 i_5 = some r ∧ St (⟨Try.f19.ntmps, M, noB, w0⟩ : Ctx) [(0, sl Ap01 (d_) cp01), (3, sl A2 (out_1) c3), (4, vI (((i_5 : Nat) : Int)))] [(700102, Ob.row (A2) ((out_1).length) (c3) 9 1 (cs4))] [(101, slF RTypeDecl (Ap01) ((d_).length) (cp01) (d_)), (103, rdF Rep.str (cs4) (out_1))] a w) (fun m1 => m1) n ⟨([]), (0), (none), (0), ([]), hg, (s.sb rfl rfl rfl)⟩ ?_
 clear s a; rintro m1 a w ⟨out_1, i_5, A2, c3, cs4, hg, s⟩
 rcases m1 with _ | m1
 ·rw [r03_Names_L0] at hg; cases hg
 rw [r03_Names_L0] at hg
 apply wQ
 apply wR
 refine mv s rfl rfl fun a s => ?_
 refine mv s rfl rfl fun a s => ?_
 refine qq s rfl (y_lenSlice s rfl underlying22) fun a s => ?_
 refine qq s rfl (y_lssN (i := i_5) (j := ((d_).length)) s rfl rfl) fun a s => ?_
 apply wN
 refine c_dec s rfl (fun hc6 => ?_) (fun hc6 => ?_)
 ·replace hg := br_t hg hc6
  have hmx7 := SlR.mx (s.ft 101 rfl)
  apply wp_skip
  apply pN
  apply wQ
  apply wp_block
  obtain ⟨x9, hx9, hg⟩ := bind_some hg
  obtain ⟨r11, hr11, hg⟩ := bind_some hg
  apply wL
  refine mv s rfl rfl fun a s => ?_
  refine mv s rfl rfl fun a s => ?_
  refine mv s rfl rfl fun a s => ?_
  obtain ⟨p14, hep14, hpp14⟩ := SlR.elemX (s.ft 101 rfl) hx9
  refine qq s rfl (y_elem (sz := 3) (i := i_5) s rfl rfl underlying22 rfl hep14 rfl (lt_of_get hx9)) fun a s => ?_
  refine qq s rfl (y_ptrField (o' := 0) s rfl underlying40 rfl rfl rfl) fun a s => ?_
  obtain ⟨hlq15, hmq15, csq15, hdq15, hcq15⟩ := hpp14
  obtain ⟨Aq152, cq152, Aq153, cq153, rfl, lq151, hq152, hq153⟩ := RTypeDecl.open hdq15
  replace s := s.ns 107 hq152
  replace s := s.ns 108 hq153
  refine qq s rfl (y_ldp1 s rfl hlq15 hmq15 (hcq15 0 _ rfl) underlying9 rfl) fun a s => ?_
  have hT := s.pk [(9200000, 700102)] (by decide)
  replace hT := hT.al 9300000 103 rfl
  refine l_seq rfl (l_callMut (cap := []) hT _ [] (sbA (by rfl)) trivial (by rfl) rfl func39 rfl (by kernel_rfl) rfl rfl (c_r03_Put n _ _ (hT.restLt []) _ out_1 (A2) (c3) (cs4) x9.Name (by omega) (hT.wd.lendL _ _ _ (sbA (by rfl)) (keep_sub []) (by rfl) (sbA (by rfl))) r11 hr11) ?_); intro v16 a' w' hK hp hF
  obtain ⟨Aou17, cou17, csou17, rfl, hWu17⟩ := hp
  have hS2 := St.mk hF (hT.wd.back (sbA (by rfl)) (keep_sub []) (by rfl) hWu17 (by rfl))
  clear s hT hF hWu17 hK; revert hS2; revert w'; revert a'; intro a w s
  replace s := s.al 109 9300000 rfl
  replace s := s.ren [(700102, Ob.row (Aou17) ((r11).length) (cou17) 9 1 (csou17))] [9200000] ⟨rfl, trivial⟩ (by decide)
  refine asg s rfl rfl fun a s => ?_
  apply wO
  refine p_inN ?_
  apply pN
  apply wL
  refine mv s rfl rfl fun a s => ?_
  refine qq s rfl (y_addN (i := i_5) (j := 1) s rfl rfl (in64.2 (by omega))) fun a s => ?_
  refine asg s rfl rfl fun a s => ?_
  apply wN
  replace s := s.al 103 109 rfl
  exact ⟨m1, Nat.lt_succ_self _, ⟨(r11), (i_5 + 1), (Aou17), (cou17), (csou17), hg, (s.sb rfl rfl rfl)⟩⟩
 replace hg := br_f hg hc6
 apply wp_exit
 refine p_then ?_
 refine p_then ?_
 refine p_in ?_
 apply pN
 apply wR
 refine mv s rfl rfl fun a s => ?_
 refine asg s rfl rfl fun a s => ?_
 apply wN
 apply wp_ret
 obtain rfl := Option.some.inj hg
 refine fin1 (fn := Try.f19) s rfl (r_tmp s rfl) ?_
 exact ⟨(A2), (c3), (cs4), rfl, (s.wd.holds 700102 _ rfl), (row_new s (kk := 700102) rfl rfl), (RdAll.own s (kk := 700102) rfl (s.ft 103 rfl))⟩
set_option maxHeartbeats 400000 in
theorem c_r03_Above (n : Nat) (M : Bs) (w0 : World) (hM : ∀ b, M b → b < w0.heap.size) (t_ : (List TypeDecl)) (Ap01 : Option Addr) (cp01 : Nat) (hp01 : SlR RTypeDecl M w0 Ap01 (t_).length cp01 (t_)) (t_' : (List UInt8)) (lp11 : (t_').length ≤ 9223372036854775807) (r : (List (List UInt8))) (hg : r03_Above n t_ t_' = some r) :
    Calls Try.prog 21 [.slice (Ap01) ((t_).length) (cp01), .string (bs (t_'))].toArray w0 (Ret noB w0 fun v w => ∃ (Aa1 : Option Addr), ∃ (ca1 : Nat), v = .slice (Aa1) ((r).length) (ca1) ∧ (SlR Rep.str M w Aa1 (r).length ca1 (r))) := by
 unfold r03_Above at hg
 refine enter M noB func21 rfl rfl hM ?_
 intro a s
 replace s := s.es 101 hp01
 apply wR
 refine asg s rfl rfl fun a s => ?_
 apply wN
 apply wQ
 apply wQ
 obtain ⟨r1, hr1, hg⟩ := bind_some hg
 apply wL
 refine mv s rfl rfl fun a s => ?_
 refine mv s rfl rfl fun a s => ?_
 refine l_seq rfl (l_call (cap := []) s rfl func42 rfl (by kernel_rfl) rfl rfl (c_r03_find n _ _ s.lt t_ (Ap01) (cp01) (s.ft 101 rfl) t_' (by omega) r1 hr1) fun v4 a w hK hp s => ?_)
 obtain rfl := hp
 refine qq s rfl (y_lss s rfl rfl) fun a s => ?_
 apply wN
 refine c_dec s rfl (fun hc6 => ?_) (fun hc6 => ?_)
 ·replace hg := br_t hg hc6
  apply wR
  refine asg s rfl rfl fun a s => ?_
  apply wN
  apply wp_ret
  refine p_thenR ?_
  obtain rfl := Option.some.inj hg
  refine fin1 (fn := Try.f21) s rfl (r_tmp s rfl) ?_
  exact ⟨(none), (0), rfl, (SlR.nil_ _ _ _)⟩
 replace hg := br_f hg hc6
 apply wp_skip
 apply pN
 apply wR
 refine mv s rfl rfl fun a s => ?_
 refine l_seq rfl (l_buildDense (sz := 1) s 1301 rfl rfl rfl underlying27 rfl rfl rfl rfl rfl rfl rfl fun b8 a w hbb8 hK s => ?_)
 clear hbb8
 refine asg s rfl rfl fun a s => ?_
 apply wN
 apply wQ
 apply wR
 refine asg s rfl rfl fun a s => ?_
 apply wN
 obtain ⟨k9, hg, hk9⟩ := jn_some hg
 refine c_post (fun a w => ∃ (t_10 : (List (List UInt8))) (A11 : Option Addr) (c12 : Nat) (cs13 : List Value), k9 t_10 = some r ∧ St (⟨Try.f21.ntmps, M, noB, w0⟩ : Ctx) [(5, sl A11 (t_10) c12)] [(700102, Ob.row (A11) ((t_10).length) (c12) 9 1 (cs13))] [(103, rdF Rep.str (cs13) (t_10))] a w) ?_ ?_
 ·apply wp_block
  replace s := s.add 106 (rdF Rep.str (cellsOfL [vT (t_')]) ([t_'])) (RdAll.cons (by exact ⟨rfl, (by omega)⟩) (RdAll.nil _ _ _))
  replace s := s.al 105 106 rfl
  replace s := s.pk [(700104, 1301)] (by decide)
  refine c_loop (σ := Nat) (fun m1 a w => ∃ (t_14 : (List (List UInt8))) (t_18 : Nat) (A15 : Option Addr) (c16 : Nat) (cs17 : List Value), r03_Above_L0 n t_ k9 m1 t_14 t_18 = some r ∧ St (⟨Try.f21.ntmps, M, noB, w0⟩ : Ctx) [(0, sl Ap01 (t_) cp01), (5, sl A15 (t_14) c16), (6, vI (((t_18 : Nat) : Int)))] [(700104, Ob.row (A15) ((t_14).length) (c16) 9 1 (cs17))] [(101, slF RTypeDecl (Ap01) ((t_).length) (cp01) (t_)), (105, rdF Rep.str (cs17) (t_14))] a w) (fun m1 => m1) n ⟨([t_']), (0), (some ⟨b8, 0, none⟩), (1), (cellsOfL [vT (t_')]), hg, (s.sb rfl rfl rfl)⟩ ?_
  clear s a; rintro m1 a w ⟨t_14, t_18, A15, c16, cs17, hg, s⟩
  rcases m1 with _ | m1
  ·rw [r03_Above_L0] at hg; cases hg
  rw [r03_Above_L0] at hg
  apply wQ
  apply wR
  refine mv s rfl rfl fun a s => ?_
  refine mv s rfl rfl fun a s => ?_
  refine qq s rfl (y_lenSlice s rfl underlying27) fun a s => ?_
  refine qq s rfl (y_lssN (i := t_18) (j := ((t_14).length)) s rfl rfl) fun a s => ?_
  apply wN
  refine c_dec s rfl (fun hc19 => ?_) (fun hc19 => ?_)
  ·replace hg := br_t hg hc19
   have hmx20 := row_mx (s.wd.holds 700104 _ rfl)
   apply wp_skip
   apply pN
   apply wQ
   obtain ⟨k21, hg, hk21⟩ := jn_some hg
   refine c_post (fun a w => ∃ (t_22 : (List (List UInt8))) (A23 : Option Addr) (c24 : Nat) (cs25 : List Value), k21 t_22 = some r ∧ St (⟨Try.f21.ntmps, M, noB, w0⟩ : Ctx) [(0, sl Ap01 (t_) cp01), (5, sl A23 (t_22) c24), (6, vI (((t_18 : Nat) : Int)))] [(700107, Ob.row (A23) ((t_22).length) (c24) 9 1 (cs25))] [(101, slF RTypeDecl (Ap01) ((t_).length) (cp01) (t_)), (108, rdF Rep.str (cs25) (t_22))] a w) ?_ ?_
   ·apply wp_block
    apply wQ
    obtain ⟨x27, hx27, hg⟩ := bind_some hg
    obtain ⟨r29, hr29, hg⟩ := bind_some hg
    obtain ⟨x33, hx33, hg⟩ := bind_some hg
    apply wL
    refine mv s rfl rfl fun a s => ?_
    refine mv s rfl rfl fun a s => ?_
    refine mv s rfl rfl fun a s => ?_
    refine mv s rfl rfl fun a s => ?_
    obtain ⟨hiq35, bq35, hAq35⟩ := SlR.row1 (s.wd.holds 700104 _ rfl) (s.ft 105 rfl) rfl rfl hx27
    refine qq s rfl (y_rowIndex (sz := 1) (i := t_18) s rfl rfl underlying27 rfl hAq35 rfl hiq35) fun a s => ?_
    have hz36 := (s.ft 105 rfl).at_ _ _ hx27
    obtain ⟨ez36, lz361⟩ := hz36
    refine qq s rfl (y_loadRow1 (kk := 700104) s rfl rfl hAq35 (take1 ez36) underlying9 rfl) fun a s => ?_
    refine l_seq rfl (l_call (cap := []) s rfl func42 rfl (by kernel_rfl) rfl rfl (c_r03_find n _ _ s.lt t_ (Ap01) (cp01) (s.ft 101 rfl) x27 (by omega) r29 hr29) fun v37 a w hK hp s => ?_)
    obtain rfl := hp
    obtain ⟨p39, hep39, hpp39⟩ := SlR.elemX (s.ft 101 rfl) (ix_some hx33).1
    refine qq s rfl (y_elem (sz := 3) (i := ((r29).toNat)) s rfl rfl underlying22 rfl hep39 (ix_some hx33).2.1 (lt_of_get (ix_some hx33).1)) fun a s => ?_
    refine qq s rfl (y_ptrField (o' := 1) s rfl underlying40 rfl rfl rfl) fun a s => ?_
    obtain ⟨hlq40, hmq40, csq40, hdq40, hcq40⟩ := hpp39
    obtain ⟨Aq402, cq402, Aq403, cq403, rfl, lq401, hq402, hq403⟩ := RTypeDecl.open hdq40
    replace s := s.ns 111 hq402
    replace s := s.ns 112 hq403
    refine qq s rfl (y_ldp1 s rfl hlq40 hmq40 (hcq40 1 _ rfl) underlying27 rfl) fun a s => ?_
    refine asg s rfl rfl fun a s => ?_
    apply wN
    apply wR
    refine asg s rfl rfl fun a s => ?_
    apply wN
    apply wp_block
    replace s := s.al 114 105 rfl
    replace s := s.pk [(700113, 700104)] (by decide)
    refine c_loop (σ := Nat) (fun m2 a w => ∃ (t_41 : (List (List UInt8))) (t_45 : Nat) (A42 : Option Addr) (c43 : Nat) (cs44 : List Value), r03_Above_L1 n k21 x33 m2 t_41 t_45 = some r ∧ St (⟨Try.f21.ntmps, M, noB, w0⟩ : Ctx) [(0, sl Ap01 (t_) cp01), (5, sl A42 (t_41) c43), (6, vI (((t_18 : Nat) : Int))), (7, sl Aq402 (x33.Supers) cq402), (8, vI (((t_45 : Nat) : Int)))] [(700113, Ob.row (A42) ((t_41).length) (c43) 9 1 (cs44))] [(101, slF RTypeDecl (Ap01) ((t_).length) (cp01) (t_)), (111, slF Rep.str (Aq402) ((x33.Supers).length) (cq402) (x33.Supers)), (114, rdF Rep.str (cs44) (t_41))] a w) (fun m2 => m2) n ⟨(t_14), (0), (A15), (c16), (cs17), hg, (s.sb rfl rfl rfl)⟩ ?_
    clear s a; rintro m2 a w ⟨t_41, t_45, A42, c43, cs44, hg, s⟩
    rcases m2 with _ | m2
    ·rw [r03_Above_L1] at hg; cases hg
    rw [r03_Above_L1] at hg
    apply wQ
    apply wR
    refine mv s rfl rfl fun a s => ?_
    refine mv s rfl rfl fun a s => ?_
    refine qq s rfl (y_lenSlice s rfl underlying27) fun a s => ?_
    refine qq s rfl (y_lssN (i := t_45) (j := ((x33.Supers).length)) s rfl rfl) fun a s => ?_
    apply wN
    refine c_dec s rfl (fun hc46 => ?_) (fun hc46 => ?_)
    ·replace hg := br_t hg hc46
     have hmx47 := SlR.mx (s.ft 111 rfl)
     apply wp_skip
     apply pN
     apply wQ
     apply wp_block
     apply wQ
     obtain ⟨x49, hx49, hg⟩ := bind_some hg
     obtain ⟨r51, hr51, hg⟩ := bind_some hg
     apply wL
     refine mv s rfl rfl fun a s => ?_
     refine mv s rfl rfl fun a s => ?_
     refine mv s rfl rfl fun a s => ?_
     obtain ⟨p54, hep54, hpp54⟩ := SlR.elemX (s.ft 111 rfl) hx49
     refine qq s rfl (y_elem (sz := 1) (i := t_45) s rfl rfl underlying27 rfl hep54 rfl (lt_of_get hx49)) fun a s => ?_
     obtain ⟨hlq55, hmq55, csq55, hdq55, hcq55⟩ := hpp54
     obtain ⟨rfl, lq551⟩ := hdq55
     refine qq s rfl (y_ldp1 s rfl hlq55 hmq55 (hcq55 0 _ rfl) underlying9 rfl) fun a s => ?_
     have hT := s
     replace hT := hT.fz (R := Rep.str) (kk := 700113) [] 116 rfl rfl (hT.ft 114 rfl) rfl
     refine l_seq rfl (l_call (cap := []) s rfl func28 rfl (by kernel_rfl) rfl rfl (c_r03_Among n _ _ hT.lt t_41 (A42) (c43) (hT.ft 116 rfl) x49 (by omega) r51 hr51) fun v56 a w hK hp s => ?_)
     obtain rfl := hp
     refine qq s rfl (y_not s rfl) fun a s => ?_
     apply wN
     refine c_cond s rfl (fun hc58 => ?_) (fun hc58 => ?_)
     ·replace hg := br_t hg hc58
      obtain ⟨hk62, hg⟩ := chk_some hg
      apply wL
      refine mv s rfl rfl fun a s => ?_
      refine mv s rfl rfl fun a s => ?_
      refine mv s rfl rfl fun a s => ?_
      obtain ⟨p65, hep65, hpp65⟩ := SlR.elemX (s.ft 111 rfl) hx49
      refine qq s rfl (y_elem (sz := 1) (i := t_45) s rfl rfl underlying27 rfl hep65 rfl (lt_of_get hx49)) fun a s => ?_
      obtain ⟨hlq66, hmq66, csq66, hdq66, hcq66⟩ := hpp65
      obtain ⟨rfl, lq661⟩ := hdq66
      refine qq s rfl (y_ldp1 s rfl hlq66 hmq66 (hcq66 0 _ rfl) underlying9 rfl) fun a s => ?_
      refine l_seq rfl (l_buildDense (sz := 1) s 2205 rfl rfl rfl underlying27 rfl rfl rfl rfl rfl rfl rfl fun b67 a w hbb67 hK s => ?_)
      clear hbb67
      replace s := s.add 119 (rdF Rep.str (cellsOfL [vT x49]) ([x49])) (RdAll.cons (by exact ⟨rfl, (by omega)⟩) (RdAll.nil _ _ _))
      have hs69 := row_src (s.wd.holds 2205 _ rfl) (RdAll.one (s.ft 119 rfl))
      refine l_seq rfl (l_append (sz := 1) (by_ := 16) (N := (t_41 ++ [x49]).length) (ys := cs44 ++ (cellsOfL [vT x49])) s 700113 rfl rfl rfl underlying27 rfl rfl rfl rfl rfl hs69 (by first | (simp; done) | (simp; omega)) rfl (by have hr := hk62; clear hg; first | omega | (simp only [List.length_append, List.length_cons, List.length_nil] at hr ⊢; omega) | (simp at hr ⊢; omega)) (by have hr := hk62; clear hg; first | omega | (simp only [List.length_append, List.length_cons, List.length_nil] at hr ⊢; omega) | (simp at hr ⊢; omega)) rfl fun Aq68 cq68 a w hA hK s => ?_)
      replace s := s.add 120 (rdF Rep.str (cs44 ++ (cellsOfL [vT x49])) (t_41 ++ [x49])) (RdAll.append (s.ft 114 rfl) (s.ft 119 rfl))
      refine asg s rfl rfl fun a s => ?_
      apply wO
      refine p_inN ?_
      apply pN
      apply wL
      refine mv s rfl rfl fun a s => ?_
      refine qq s rfl (y_addN (i := t_45) (j := 1) s rfl rfl (in64.2 (by omega))) fun a s => ?_
      refine asg s rfl rfl fun a s => ?_
      apply wN
      replace s := s.add 114 (rdF Rep.str (cs44 ++ (cellsOfL [vT x49])) (t_41 ++ [x49])) (s.ft 120 rfl)
      exact ⟨m2, Nat.lt_succ_self _, ⟨(t_41 ++ [x49]), (t_45 + 1), (Aq68), (cq68), (cs44 ++ (cellsOfL [vT x49])), hg, (s.sb rfl rfl rfl)⟩⟩
     replace hg := br_n hg hc58
     apply wp_skip
     refine p_inN ?_
     apply pN
     apply wL
     refine mv s rfl rfl fun a s => ?_
     refine qq s rfl (y_addN (i := t_45) (j := 1) s rfl rfl (in64.2 (by omega))) fun a s => ?_
     refine asg s rfl rfl fun a s => ?_
     apply wN
     replace s := s.al 114 114 rfl
     exact ⟨m2, Nat.lt_succ_self _, ⟨(t_41), (t_45 + 1), (A42), (c43), (cs44), hg, (s.sb rfl rfl rfl)⟩⟩
    replace hg := br_f hg hc46
    apply wp_exit
    refine p_then ?_
    refine p_then ?_
    refine p_in ?_
    refine p_inN ?_
    apply pN
    replace s := s.al 108 114 rfl
    replace s := s.pk [(700107, 700113)] (by decide)
    exact ⟨(t_41), (A42), (c43), (cs44), hg, (s.sb rfl rfl rfl)⟩
   clear s a; rintro a w ⟨t_22, A23, c24, cs25, hg, s⟩
   subst hk21
   apply wL
   refine mv s rfl rfl fun a s => ?_
   refine qq s rfl (y_addN (i := t_18) (j := 1) s rfl rfl (in64.2 (by omega))) fun a s => ?_
   refine asg s rfl rfl fun a s => ?_
   apply wN
   replace s := s.al 105 108 rfl
   replace s := s.pk [(700104, 700107)] (by decide)
   exact ⟨m1, Nat.lt_succ_self _, ⟨(t_22), (t_18 + 1), (A23), (c24), (cs25), hg, (s.sb rfl rfl rfl)⟩⟩
  replace hg := br_f hg hc19
  apply wp_exit
  refine p_then ?_
  refine p_then ?_
  refine p_in ?_
  apply pN
  replace s := s.al 103 105 rfl
  replace s := s.pk [(700102, 700104)] (by decide)
  exact ⟨(t_14), (A15), (c16), (cs17), hg, (s.sb rfl rfl rfl)⟩
 clear s a; rintro a w ⟨t_10, A11, c12, cs13, hg, s⟩
 subst hk9
 apply wR
 refine asg s rfl rfl fun a s => ?_
 apply wN
 apply wQ
 apply wR
 refine asg s rfl rfl fun a s => ?_
 apply wN
 apply wp_block
 replace s := s.nilRow 700121 9 1 rfl
 replace s := s.add 122 (rdF Rep.str [] []) (RdAll.nil _ _ _)
 refine c_loop (σ := Nat) (fun m3 a w => ∃ (t_70 : (List (List UInt8))) (t_74 : Nat) (A71 : Option Addr) (c72 : Nat) (cs73 : List Value), r03_Above_L2 n t_10 m3 t_70 t_74 = some r ∧ St (⟨Try.f21.ntmps, M, noB, w0⟩ : Ctx) [(5, sl A11 (t_10) c12), (9, sl A71 (t_70) c72), (10, vI (((t_74 : Nat) : Int)))] [(700102, Ob.row (A11) ((t_10).length) (c12) 9 1 (cs13)), (700121, Ob.row (A71) ((t_70).length) (c72) 9 1 (cs73))] [(103, rdF Rep.str (cs13) (t_10)), (122, rdF Rep.str (cs73) (t_70))] a w) (fun m3 => m3) n ⟨([]), (0), (none), (0), ([]), hg, (s.sb rfl rfl rfl)⟩ ?_
 clear s a; rintro m3 a w ⟨t_70, t_74, A71, c72, cs73, hg, s⟩
 rcases m3 with _ | m3
 ·rw [r03_Above_L2] at hg; cases hg
 rw [r03_Above_L2] at hg
 apply wQ
 apply wR
 refine mv s rfl rfl fun a s => ?_
 refine mv s rfl rfl fun a s => ?_
 refine qq s rfl (y_lenSlice s rfl underlying27) fun a s => ?_
 refine qq s rfl (y_lssN (i := t_74) (j := ((t_10).length)) s rfl rfl) fun a s => ?_
 apply wN
 refine c_dec s rfl (fun hc75 => ?_) (fun hc75 => ?_)
 ·replace hg := br_t hg hc75
  have hmx76 := row_mx (s.wd.holds 700102 _ rfl)
  apply wp_skip
  apply pN
  apply wQ
  apply wp_block
  obtain ⟨x78, hx78, hg⟩ := bind_some hg
  obtain ⟨r80, hr80, hg⟩ := bind_some hg
  apply wL
  refine mv s rfl rfl fun a s => ?_
  refine mv s rfl rfl fun a s => ?_
  refine mv s rfl rfl fun a s => ?_
  obtain ⟨hiq83, bq83, hAq83⟩ := SlR.row1 (s.wd.holds 700102 _ rfl) (s.ft 103 rfl) rfl rfl hx78
  refine qq s rfl (y_rowIndex (sz := 1) (i := t_74) s rfl rfl underlying27 rfl hAq83 rfl hiq83) fun a s => ?_
  have hz84 := (s.ft 103 rfl).at_ _ _ hx78
  obtain ⟨ez84, lz841⟩ := hz84
  refine qq s rfl (y_loadRow1 (kk := 700102) s rfl rfl hAq83 (take1 ez84) underlying9 rfl) fun a s => ?_
  have hT := s.pk [(700102, 700102), (9200000, 700121)] (by decide)
  replace hT := hT.al 9300000 122 rfl
  refine l_seq rfl (l_callMut (cap := []) hT _ [] (sbA (by rfl)) trivial (by rfl) rfl func39 rfl (by kernel_rfl) rfl rfl (c_r03_Put n _ _ (hT.restLt [700102]) _ t_70 (A71) (c72) (cs73) x78 (by omega) (hT.wd.lendL _ _ _ (sbA (by rfl)) (keep_sub [700102]) (by rfl) (sbA (by rfl))) r80 hr80) ?_); intro v85 a' w' hK hp hF
  obtain ⟨Aou86, cou86, csou86, rfl, hWu86⟩ := hp
  have hS2 := St.mk hF (hT.wd.back (sbA (by rfl)) (keep_sub [700102]) (by rfl) hWu86 (by rfl))
  clear s hT hF hWu86 hK; revert hS2; revert w'; revert a'; intro a w s
  replace s := s.al 124 9300000 rfl
  replace s := s.ren [(700102, Ob.row (A11) ((t_10).length) (c12) 9 1 (cs13)), (700121, Ob.row (Aou86) ((r80).length) (cou86) 9 1 (csou86))] [700102, 9200000] ⟨rfl, rfl, trivial⟩ (by decide)
  refine asg s rfl rfl fun a s => ?_
  apply wO
  refine p_inN ?_
  apply pN
  apply wL
  refine mv s rfl rfl fun a s => ?_
  refine qq s rfl (y_addN (i := t_74) (j := 1) s rfl rfl (in64.2 (by omega))) fun a s => ?_
  refine asg s rfl rfl fun a s => ?_
  apply wN
  replace s := s.al 122 124 rfl
  exact ⟨m3, Nat.lt_succ_self _, ⟨(r80), (t_74 + 1), (Aou86), (cou86), (csou86), hg, (s.sb rfl rfl rfl)⟩⟩
 replace hg := br_f hg hc75
 apply wp_exit
 refine p_then ?_
 refine p_then ?_
 refine p_in ?_
 apply pN
 apply wR
 refine mv s rfl rfl fun a s => ?_
 refine asg s rfl rfl fun a s => ?_
 apply wN
 apply wp_ret
 obtain rfl := Option.some.inj hg
 refine fin1 (fn := Try.f21) s rfl (r_tmp s rfl) ?_
 exact ⟨(A71), (c72), rfl, (s.rowOut (R := Rep.str) (kk := 700121) rfl rfl (s.ft 122 rfl))⟩
end Go.Proofs.Ytoeolfnjblibpaa
