/- Chapter 03: the walks, part 1 -/
import Derived.Test.YtoeolfnjblibpaaD1
namespace Go.Proofs.Ytoeolfnjblibpaa
open Go.Gl Go.RowKit Try
set_option linter.unusedVariables false
set_option linter.unusedSimpArgs false
set_option maxRecDepth 4000

set_option maxHeartbeats 400000 in
theorem c_r03_Light (n : Nat) (M : Bs) (w0 : World) (hM : ∀ b, M b → b < w0.heap.size) (d_ : (List TypeDecl)) (Ap01 : Option Addr) (cp01 : Nat) (hp01 : SlR RTypeDecl M w0 Ap01 (d_).length cp01 (d_)) (r : Bool) (hg : r03_Light n d_ = some r) :
    Calls Try.prog 11 [.slice (Ap01) ((d_).length) (cp01)].toArray w0 (Ret noB w0 fun v w => v = .bool (r)) := by
 unfold r03_Light at hg
 refine enter M noB func11 rfl rfl hM ?_
 intro a s
 replace s := s.es 101 hp01
 apply wR
 refine asg s rfl rfl fun a s => ?_
 apply wN
 apply wQ
 apply wR
 refine mv s rfl rfl fun a s => ?_
 refine qq s rfl (y_lenSlice s rfl underlying22) fun a s => ?_
 refine qq s rfl (y_gtrN (i := ((d_).length)) (j := 16) s rfl rfl) fun a s => ?_
 apply wN
 refine c_dec s rfl (fun hc1 => ?_) (fun hc1 => ?_)
 ·replace hg := br_t hg hc1
  have hmx2 := SlR.mx (s.ft 101 rfl)
  apply wR
  refine asg s rfl rfl fun a s => ?_
  apply wN
  apply wp_ret
  refine p_thenR ?_
  obtain rfl := Option.some.inj hg
  refine fin1 (fn := Try.f11) s rfl (r_tmp s rfl) ?_
  exact rfl
 replace hg := br_f hg hc1
 apply wp_skip
 apply pN
 apply wQ
 apply wR
 refine asg s rfl rfl fun a s => ?_
 apply wN
 apply wp_block
 refine c_loop (σ := Nat) (fun m1 a w => ∃ (i_3 : Nat), r03_Light_L0 n d_ m1 i_3 = some r ∧ St (⟨Try.f11.ntmps, M, noB, w0⟩ : Ctx) [(0, sl Ap01 (d_) cp01), (3, vI (((i_3 : Nat) : Int)))] [] [(101, slF RTypeDecl (Ap01) ((d_).length) (cp01) (d_))] a w) (fun m1 => m1) n ⟨(0), hg, (s.sb rfl rfl rfl)⟩ ?_
 clear s a; rintro m1 a w ⟨i_3, hg, s⟩
 rcases m1 with _ | m1
 ·rw [r03_Light_L0] at hg; cases hg
 rw [r03_Light_L0] at hg
 apply wQ
 apply wR
 refine mv s rfl rfl fun a s => ?_
 refine mv s rfl rfl fun a s => ?_
 refine qq s rfl (y_lenSlice s rfl underlying22) fun a s => ?_
 refine qq s rfl (y_lssN (i := i_3) (j := ((d_).length)) s rfl rfl) fun a s => ?_
 apply wN
 refine c_dec s rfl (fun hc4 => ?_) (fun hc4 => ?_)
 ·replace hg := br_t hg hc4
  have hmx5 := SlR.mx (s.ft 101 rfl)
  apply wp_skip
  apply pN
  apply wQ
  apply wp_block
  apply wQ
  obtain ⟨k6, hg, hk6⟩ := jn_some hg
  refine c_post (fun a w => ∃ (t_7 : Bool), k6 t_7 = some r ∧ St (⟨Try.f11.ntmps, M, noB, w0⟩ : Ctx) [(0, sl Ap01 (d_) cp01), (3, vI (((i_3 : Nat) : Int))), (28, .bool (t_7))] [] [(101, slF RTypeDecl (Ap01) ((d_).length) (cp01) (d_))] a w) ?_ ?_
  ·obtain ⟨x9, hx9, hg⟩ := bind_some hg
   rcases Decidable.em ((20 : Nat) < ((x9.Supers).length)) with hs11 | hs11
   ·have hs11e := decide_eq_true hs11
    replace hg := br_t hg hs11
    apply wL
    refine mv s rfl rfl fun a s => ?_
    refine mv s rfl rfl fun a s => ?_
    obtain ⟨p12, hep12, hpp12⟩ := SlR.elemX (s.ft 101 rfl) hx9
    refine qq s rfl (y_elem (sz := 3) (i := i_3) s rfl rfl underlying22 rfl hep12 rfl (lt_of_get hx9)) fun a s => ?_
    refine qq s rfl (y_ptrField (o' := 1) s rfl underlying40 rfl rfl rfl) fun a s => ?_
    obtain ⟨hlq13, hmq13, csq13, hdq13, hcq13⟩ := hpp12
    obtain ⟨Aq132, cq132, Aq133, cq133, rfl, lq131, hq132, hq133⟩ := RTypeDecl.open hdq13
    replace s := s.ns 104 hq132
    replace s := s.ns 105 hq133
    refine qq s rfl (y_ldp1 s rfl hlq13 hmq13 (hcq13 1 _ rfl) underlying27 rfl) fun a s => ?_
    refine qq s rfl (y_lenSlice s rfl underlying27) fun a s => ?_
    refine qq s rfl (yl_b (y_gtrN (i := ((x9.Supers).length)) (j := 20) s rfl rfl) hs11e) fun a s => ?_
    refine mv s rfl rfl fun a s => ?_
    refine gn s rfl fun a s => ?_
    refine gn s rfl fun a s => ?_
    refine gn s rfl fun a s => ?_
    refine gn s rfl fun a s => ?_
    refine gn s rfl fun a s => ?_
    refine gn s rfl fun a s => ?_
    refine gn s rfl fun a s => ?_
    refine qq s rfl (y_pick_t s rfl rfl) fun a s => ?_
    apply wN
    exact ⟨(true), hg, (s.sb rfl rfl rfl)⟩
   have hs11e := decide_eq_false hs11
   replace hg := br_f hg hs11
   apply wL
   refine mv s rfl rfl fun a s => ?_
   refine mv s rfl rfl fun a s => ?_
   obtain ⟨p16, hep16, hpp16⟩ := SlR.elemX (s.ft 101 rfl) hx9
   refine qq s rfl (y_elem (sz := 3) (i := i_3) s rfl rfl underlying22 rfl hep16 rfl (lt_of_get hx9)) fun a s => ?_
   refine qq s rfl (y_ptrField (o' := 1) s rfl underlying40 rfl rfl rfl) fun a s => ?_
   obtain ⟨hlq17, hmq17, csq17, hdq17, hcq17⟩ := hpp16
   obtain ⟨Aq172, cq172, Aq173, cq173, rfl, lq171, hq172, hq173⟩ := RTypeDecl.open hdq17
   replace s := s.ns 108 hq172
   replace s := s.ns 109 hq173
   refine qq s rfl (y_ldp1 s rfl hlq17 hmq17 (hcq17 1 _ rfl) underlying27 rfl) fun a s => ?_
   refine qq s rfl (y_lenSlice s rfl underlying27) fun a s => ?_
   refine qq s rfl (yl_b (y_gtrN (i := ((x9.Supers).length)) (j := 20) s rfl rfl) hs11e) fun a s => ?_
   refine mv s rfl rfl fun a s => ?_
   refine gm s rfl rfl fun a s => ?_
   refine gm s rfl rfl fun a s => ?_
   obtain ⟨p18, hep18, hpp18⟩ := SlR.elemX (s.ft 101 rfl) hx9
   refine gy s rfl (y_elem (sz := 3) (i := i_3) s rfl rfl underlying22 rfl hep18 rfl (lt_of_get hx9)) fun a s => ?_
   refine gy s rfl (y_ptrField (o' := 2) s rfl underlying40 rfl rfl rfl) fun a s => ?_
   obtain ⟨hlq19, hmq19, csq19, hdq19, hcq19⟩ := hpp18
   obtain ⟨Aq192, cq192, Aq193, cq193, rfl, lq191, hq192, hq193⟩ := RTypeDecl.open hdq19
   replace s := s.ns 110 hq192
   replace s := s.ns 111 hq193
   refine gy s rfl (y_ldp1 s rfl hlq19 hmq19 (hcq19 2 _ rfl) underlying38 rfl) fun a s => ?_
   refine gy s rfl (y_lenSlice s rfl underlying38) fun a s => ?_
   refine gy s rfl (y_gtrN (i := ((x9.Feats).length)) (j := 20) s rfl rfl) fun a s => ?_
   refine qq s rfl (y_pick_f s rfl rfl) fun a s => ?_
   apply wN
   exact ⟨(decide ((20 : Nat) < ((x9.Feats).length))), hg, (s.sb rfl rfl rfl)⟩
  clear s a; rintro a w ⟨t_7, hg, s⟩
  subst hk6
  refine c_cond s rfl (fun hc20 => ?_) (fun hc20 => ?_)
  ·replace hg := br_t hg hc20
   apply wR
   refine asg s rfl rfl fun a s => ?_
   apply wN
   apply wp_ret
   refine p_inR ?_
   refine p_thenR ?_
   refine p_thenR ?_
   refine p_inR ?_
   refine p_thenR ?_
   obtain rfl := Option.some.inj hg
   refine fin1 (fn := Try.f11) s rfl (r_tmp s rfl) ?_
   exact rfl
  replace hg := br_n hg hc20
  apply wp_skip
  refine p_inN ?_
  apply pN
  apply wL
  refine mv s rfl rfl fun a s => ?_
  refine qq s rfl (y_addN (i := i_3) (j := 1) s rfl rfl (in64.2 (by omega))) fun a s => ?_
  refine asg s rfl rfl fun a s => ?_
  apply wN
  exact ⟨m1, Nat.lt_succ_self _, ⟨(i_3 + 1), hg, (s.sb rfl rfl rfl)⟩⟩
 replace hg := br_f hg hc4
 apply wp_exit
 refine p_then ?_
 refine p_then ?_
 refine p_in ?_
 apply pN
 apply wR
 refine asg s rfl rfl fun a s => ?_
 apply wN
 apply wp_ret
 obtain rfl := Option.some.inj hg
 refine fin1 (fn := Try.f11) s rfl (r_tmp s rfl) ?_
 exact rfl
set_option maxHeartbeats 400000 in
theorem c_slices_IndexFunc_TypeDecl (n : Nat) (M : Bs) (w0 : World) (hM : ∀ b, M b → b < w0.heap.size) (s_ : (List TypeDecl)) (Ap01 : Option Addr) (cp01 : Nat) (hp01 : SlR RTypeDecl M w0 Ap01 (s_).length cp01 (s_)) (f_ : (TypeDecl → Option Bool)) (Ap11 : FuncId) (cp11 : List Value) (hp11 : FnR Try.prog Ap11 cp11 pre59 post59 (f_) M w0) (r : Int) (hg : slices_IndexFunc_TypeDecl n s_ f_ = some r) :
    Calls Try.prog 61 [.slice (Ap01) ((s_).length) (cp01), .func (.func Ap11) #[] (List.toArray cp11)].toArray w0 (Ret noB w0 fun v w => v = .int .i64 (r)) := by
 unfold slices_IndexFunc_TypeDecl at hg
 refine enter M noB func61 rfl rfl hM ?_
 intro a s
 replace s := s.es 101 hp01
 replace s := s.add 102 (fnF Try.prog Ap11 cp11 pre59 post59 (f_)) (by exact Fact.change _ enterM hp11)
 apply wR
 refine asg s rfl rfl fun a s => ?_
 apply wN
 apply wQ
 apply wR
 refine mv s rfl rfl fun a s => ?_
 refine qq s rfl (y_lenSlice s rfl underlying22) fun a s => ?_
 refine mv s rfl rfl fun a s => ?_
 apply wN
 apply wp_block
 refine c_loop (σ := Nat) (fun m1 a w => ∃ (t_1 : Nat), slices_IndexFunc_TypeDecl_L0 n s_ f_ m1 t_1 = some r ∧ St (⟨Try.f61.ntmps, M, noB, w0⟩ : Ctx) [(0, sl Ap01 (s_) cp01), (1, .func (.func Ap11) #[] (List.toArray cp11)), (7, vI ((((s_).length : Nat) : Int))), (8, vI (((t_1 : Nat) : Int)))] [] [(101, slF RTypeDecl (Ap01) ((s_).length) (cp01) (s_)), (102, fnF Try.prog Ap11 cp11 pre59 post59 (f_))] a w) (fun m1 => m1) n ⟨(0), hg, (s.sb rfl rfl rfl)⟩ ?_
 clear s a; rintro m1 a w ⟨t_1, hg, s⟩
 rcases m1 with _ | m1
 ·rw [slices_IndexFunc_TypeDecl_L0] at hg; cases hg
 rw [slices_IndexFunc_TypeDecl_L0] at hg
 apply wR
 refine qq s rfl (y_lssN (i := t_1) (j := ((s_).length)) s rfl rfl) fun a s => ?_
 apply wN
 apply wQ
 refine c_dec s rfl (fun hc2 => ?_) (fun hc2 => ?_)
 ·replace hg := br_t hg hc2
  have hmx3 := SlR.mx (s.ft 101 rfl)
  apply wp_skip
  apply pN
  apply wQ
  apply wp_block
  apply wR
  refine mv s rfl rfl fun a s => ?_
  refine asg s rfl rfl fun a s => ?_
  apply wN
  apply wQ
  obtain ⟨x5, hx5, hg⟩ := bind_some hg
  obtain ⟨r7, hr7, hg⟩ := bind_some hg
  apply wL
  refine mv s rfl rfl fun a s => ?_
  refine mv s rfl rfl fun a s => ?_
  refine mv s rfl rfl fun a s => ?_
  obtain ⟨p10, hep10, hpp10⟩ := SlR.elemX (s.ft 101 rfl) hx5
  refine qq s rfl (y_elem (sz := 3) (i := t_1) s rfl rfl underlying22 rfl hep10 rfl (lt_of_get hx5)) fun a s => ?_
  obtain ⟨hlq11, hmq11, csq11, hdq11, hcq11⟩ := hpp10
  obtain ⟨Aq112, cq112, Aq113, cq113, rfl, lq111, hq112, hq113⟩ := RTypeDecl.open hdq11
  replace s := s.ns 105 hq112
  replace s := s.ns 106 hq113
  refine qq s rfl (y_ldp s rfl hlq11 hmq11 (by simpa using hcq11) underlying40 rfl rfl) fun a s => ?_
  refine l_seq rfl (l_callFn (cap := cp11) (x := x5) s rfl (s.ft 102 rfl) rfl rfl ⟨(Aq112), (cq112), (Aq113), (cq113), rfl, (by omega), (s.ft 105 rfl), (s.ft 106 rfl)⟩ hr7 fun v12 a w hK hp s => ?_)
  obtain rfl := hp
  apply wN
  refine c_cond s rfl (fun hc14 => ?_) (fun hc14 => ?_)
  ·replace hg := br_t hg hc14
   apply wR
   refine mv s rfl rfl fun a s => ?_
   refine asg s rfl rfl fun a s => ?_
   apply wN
   apply wp_ret
   refine p_inR ?_
   refine p_thenR ?_
   refine p_thenR ?_
   refine p_inR ?_
   refine p_thenR ?_
   obtain rfl := Option.some.inj hg
   refine fin1 (fn := Try.f61) s rfl (r_tmp s rfl) ?_
   exact rfl
  replace hg := br_n hg hc14
  apply wp_skip
  refine p_inN ?_
  apply pN
  apply wL
  refine qq s rfl (y_addN (i := t_1) (j := 1) s rfl rfl (in64.2 (by omega))) fun a s => ?_
  refine mv s rfl rfl fun a s => ?_
  apply wN
  exact ⟨m1, Nat.lt_succ_self _, ⟨(t_1 + 1), hg, (s.sb rfl rfl rfl)⟩⟩
 replace hg := br_f hg hc2
 apply wp_exit
 refine p_then ?_
 refine p_then ?_
 refine p_in ?_
 apply pN
 apply wR
 refine asg s rfl rfl fun a s => ?_
 apply wN
 apply wp_ret
 obtain rfl := Option.some.inj hg
 refine fin1 (fn := Try.f61) s rfl (r_tmp s rfl) ?_
 exact rfl
set_option maxHeartbeats 400000 in
theorem c_slices_ContainsFunc_TypeDecl (n : Nat) (M : Bs) (w0 : World) (hM : ∀ b, M b → b < w0.heap.size) (s_ : (List TypeDecl)) (Ap01 : Option Addr) (cp01 : Nat) (hp01 : SlR RTypeDecl M w0 Ap01 (s_).length cp01 (s_)) (f_ : (TypeDecl → Option Bool)) (Ap11 : FuncId) (cp11 : List Value) (hp11 : FnR Try.prog Ap11 cp11 pre59 post59 (f_) M w0) (r : Bool) (hg : slices_ContainsFunc_TypeDecl n s_ f_ = some r) :
    Calls Try.prog 50 [.slice (Ap01) ((s_).length) (cp01), .func (.func Ap11) #[] (List.toArray cp11)].toArray w0 (Ret noB w0 fun v w => v = .bool (r)) := by
 unfold slices_ContainsFunc_TypeDecl at hg
 refine enter M noB func50 rfl rfl hM ?_
 intro a s
 replace s := s.es 101 hp01
 replace s := s.add 102 (fnF Try.prog Ap11 cp11 pre59 post59 (f_)) (by exact Fact.change _ enterM hp11)
 apply wR
 refine asg s rfl rfl fun a s => ?_
 apply wN
 apply wQ
 obtain ⟨r1, hr1, hg⟩ := bind_some hg
 apply wL
 refine mv s rfl rfl fun a s => ?_
 refine mv s rfl rfl fun a s => ?_
 refine l_seq rfl (l_call (cap := []) s rfl func61 rfl (by kernel_rfl) rfl rfl (c_slices_IndexFunc_TypeDecl n _ _ s.lt s_ (Ap01) (cp01) (s.ft 101 rfl) f_ (Ap11) (cp11) (s.ft 102 rfl) r1 hr1) fun v4 a w hK hp s => ?_)
 obtain rfl := hp
 refine qq s rfl (y_geq s rfl rfl) fun a s => ?_
 refine asg s rfl rfl fun a s => ?_
 apply wN
 apply wp_ret
 obtain rfl := Option.some.inj hg
 refine fin1 (fn := Try.f50) s rfl (r_tmp s rfl) ?_
 exact rfl
set_option maxHeartbeats 400000 in
theorem c_poset_long_1 (n : Nat) (M : Bs) (w0 : World) (hM : ∀ b, M b → b < w0.heap.size) (x_ : TypeDecl) (Ap02 : Option Addr) (cp02 : Nat) (Ap03 : Option Addr) (cp03 : Nat) (lp01 : (x_.Name).length ≤ 9223372036854775807) (hp02 : SlR Rep.str M w0 Ap02 (x_.Supers).length cp02 (x_.Supers)) (hp03 : SlR RFeatDecl M w0 Ap03 (x_.Feats).length cp03 (x_.Feats)) (r : Bool) (hg : poset_long_1 n x_ = some r) :
    Calls Try.prog 51 [.agg #[.string (bs (x_.Name)), .slice (Ap02) ((x_.Supers).length) (cp02), .slice (Ap03) ((x_.Feats).length) (cp03)]].toArray w0 (Ret noB w0 fun v w => v = .bool (r)) := by
 unfold poset_long_1 at hg
 refine enter M noB func51 rfl rfl hM ?_
 intro a s
 replace s := s.es 101 hp02
 replace s := s.es 102 hp03
 apply wR
 refine l_seq rfl (l_box (zs := [vT (x_.Name), sl Ap02 (x_.Supers) cp02, sl Ap03 (x_.Feats) cp03]) s 1000 rfl rfl rfl rfl fun b2 a w hb hK s => ?_)
 refine asg s rfl rfl fun a s => ?_
 apply wN
 apply wQ
 rcases Decidable.em ((256 : Nat) < ((x_.Supers).length)) with hs3 | hs3
 ·have hs3e := decide_eq_true hs3
  replace hg := br_t hg hs3
  have hmx4 := SlR.mx (s.ft 101 rfl)
  apply wL
  refine qq s rfl (y_boxField (o' := 1) s rfl underlying40 rfl rfl rfl) fun a s => ?_
  refine qq s rfl (y_loadBox1 (kk := 1000) s rfl rfl rfl underlying27 rfl) fun a s => ?_
  refine qq s rfl (y_lenSlice s rfl underlying27) fun a s => ?_
  refine qq s rfl (yl_b (y_gtrN (i := ((x_.Supers).length)) (j := 256) s rfl rfl) hs3e) fun a s => ?_
  refine mv s rfl rfl fun a s => ?_
  refine gn s rfl fun a s => ?_
  refine gn s rfl fun a s => ?_
  refine gn s rfl fun a s => ?_
  refine gn s rfl fun a s => ?_
  refine qq s rfl (y_pick_t s rfl rfl) fun a s => ?_
  refine asg s rfl rfl fun a s => ?_
  apply wN
  apply wp_ret
  obtain rfl := Option.some.inj hg
  refine fin1 (fn := Try.f51) s rfl (r_tmp s rfl) ?_
  exact rfl
 have hs3e := decide_eq_false hs3
 replace hg := br_f hg hs3
 apply wL
 refine qq s rfl (y_boxField (o' := 1) s rfl underlying40 rfl rfl rfl) fun a s => ?_
 refine qq s rfl (y_loadBox1 (kk := 1000) s rfl rfl rfl underlying27 rfl) fun a s => ?_
 refine qq s rfl (y_lenSlice s rfl underlying27) fun a s => ?_
 refine qq s rfl (yl_b (y_gtrN (i := ((x_.Supers).length)) (j := 256) s rfl rfl) hs3e) fun a s => ?_
 refine mv s rfl rfl fun a s => ?_
 refine gy s rfl (y_boxField (o' := 2) s rfl underlying40 rfl rfl rfl) fun a s => ?_
 refine gy s rfl (y_loadBox1 (kk := 1000) s rfl rfl rfl underlying38 rfl) fun a s => ?_
 refine gy s rfl (y_lenSlice s rfl underlying38) fun a s => ?_
 refine gy s rfl (y_gtrN (i := ((x_.Feats).length)) (j := 256) s rfl rfl) fun a s => ?_
 refine qq s rfl (y_pick_f s rfl rfl) fun a s => ?_
 refine asg s rfl rfl fun a s => ?_
 apply wN
 apply wp_ret
 obtain rfl := Option.some.inj hg
 refine fin1 (fn := Try.f51) s rfl (r_tmp s rfl) ?_
 exact rfl
set_option maxHeartbeats 400000 in
theorem c_poset_long (n : Nat) (M : Bs) (w0 : World) (hM : ∀ b, M b → b < w0.heap.size) (d_ : (List TypeDecl)) (Ap01 : Option Addr) (cp01 : Nat) (hp01 : SlR RTypeDecl M w0 Ap01 (d_).length cp01 (d_)) (r : Bool) (hg : poset_long n d_ = some r) :
    Calls Try.prog 31 [.slice (Ap01) ((d_).length) (cp01)].toArray w0 (Ret noB w0 fun v w => v = .bool (r)) := by
 unfold poset_long at hg
 refine enter M noB func31 rfl rfl hM ?_
 intro a s
 replace s := s.es 101 hp01
 apply wR
 refine asg s rfl rfl fun a s => ?_
 apply wN
 apply wQ
 rcases Decidable.em ((256 : Nat) < ((d_).length)) with hs1 | hs1
 ·have hs1e := decide_eq_true hs1
  replace hg := br_t hg hs1
  have hmx2 := SlR.mx (s.ft 101 rfl)
  apply wL
  refine mv s rfl rfl fun a s => ?_
  refine qq s rfl (y_lenSlice s rfl underlying22) fun a s => ?_
  refine qq s rfl (yl_b (y_gtrN (i := ((d_).length)) (j := 256) s rfl rfl) hs1e) fun a s => ?_
  refine mv s rfl rfl fun a s => ?_
  refine gn s rfl fun a s => ?_
  refine gn s rfl fun a s => ?_
  refine qq s rfl (y_pick_t s rfl rfl) fun a s => ?_
  refine asg s rfl rfl fun a s => ?_
  apply wN
  apply wp_ret
  obtain rfl := Option.some.inj hg
  refine fin1 (fn := Try.f31) s rfl (r_tmp s rfl) ?_
  exact rfl
 have hs1e := decide_eq_false hs1
 replace hg := br_f hg hs1
 obtain ⟨r3, hr3, hg⟩ := bind_some hg
 apply wL
 refine mv s rfl rfl fun a s => ?_
 refine qq s rfl (y_lenSlice s rfl underlying22) fun a s => ?_
 refine qq s rfl (yl_b (y_gtrN (i := ((d_).length)) (j := 256) s rfl rfl) hs1e) fun a s => ?_
 refine mv s rfl rfl fun a s => ?_
 refine gm s rfl rfl fun a s => ?_
 refine gl s rfl (l_call (cap := []) s rfl func50 rfl (by kernel_rfl) rfl rfl (c_slices_ContainsFunc_TypeDecl n _ _ s.lt d_ (Ap01) (cp01) (s.ft 101 rfl) (fun p => poset_long_1 n p) (51) ([]) ⟨⟨_, _, func51, rfl, by kernel_rfl⟩, fun M1 w1 hk hm hlt vs x r hp hr => by obtain ⟨Aa2, ca2, Aa3, ca3, rfl, la1, ha2, ha3⟩ := hp; exact c_poset_long_1 n M1 w1 hlt (x) Aa2 ca2 Aa3 ca3 la1 ha2 ha3 r hr⟩ r3 hr3) fun v6 a w hK hp s => ?_)
 obtain rfl := hp
 refine qq s rfl (y_pick_f s rfl rfl) fun a s => ?_
 refine asg s rfl rfl fun a s => ?_
 apply wN
 apply wp_ret
 obtain rfl := Option.some.inj hg
 refine fin1 (fn := Try.f31) s rfl (r_tmp s rfl) ?_
 exact rfl
set_option maxHeartbeats 400000 in
theorem c_text_digit (n : Nat) (M : Bs) (w0 : World) (hM : ∀ b, M b → b < w0.heap.size) (c_ : Int) (r : Bool) (hg : text_digit n c_ = some r) :
    Calls Try.prog 67 [.int .i32 (c_)].toArray w0 (Ret noB w0 fun v w => v = .bool (r)) := by
 unfold text_digit at hg
 refine enter M noB func67 rfl rfl hM ?_
 intro a s
 apply wR
 refine asg s rfl rfl fun a s => ?_
 apply wN
 apply wQ
 rcases Decidable.em ((48 : Int) ≤ c_) with hs1 | hs1
 ·have hs1e := decide_eq_true hs1
  replace hg := br_t hg hs1
  apply wL
  refine mv s rfl rfl fun a s => ?_
  refine qq s rfl (yl_b (y_geq s rfl rfl) hs1e) fun a s => ?_
  refine mv s rfl rfl fun a s => ?_
  refine gm s rfl rfl fun a s => ?_
  refine gy s rfl (y_leq s rfl rfl) fun a s => ?_
  refine qq s rfl (y_pick_t s rfl rfl) fun a s => ?_
  refine asg s rfl rfl fun a s => ?_
  apply wN
  apply wp_ret
  obtain rfl := Option.some.inj hg
  refine fin1 (fn := Try.f67) s rfl (r_tmp s rfl) ?_
  exact rfl
 have hs1e := decide_eq_false hs1
 replace hg := br_f hg hs1
 apply wL
 refine mv s rfl rfl fun a s => ?_
 refine qq s rfl (yl_b (y_geq s rfl rfl) hs1e) fun a s => ?_
 refine mv s rfl rfl fun a s => ?_
 refine gn s rfl fun a s => ?_
 refine gn s rfl fun a s => ?_
 refine qq s rfl (y_pick_f s rfl rfl) fun a s => ?_
 refine asg s rfl rfl fun a s => ?_
 apply wN
 apply wp_ret
 obtain rfl := Option.some.inj hg
 refine fin1 (fn := Try.f67) s rfl (r_tmp s rfl) ?_
 exact rfl
set_option maxHeartbeats 400000 in
theorem c_text_follows (n : Nat) (M : Bs) (w0 : World) (hM : ∀ b, M b → b < w0.heap.size) (s_ : (List UInt8)) (lp01 : (s_).length ≤ 9223372036854775807) (letter_ : (Int → Option Bool)) (Ap11 : FuncId) (cp11 : List Value) (hp11 : FnR Try.prog Ap11 cp11 pre69 post69 (letter_) M w0) (r : Bool) (hg : text_follows n s_ letter_ = some r) :
    Calls Try.prog 62 [.string (bs (s_)), .func (.func Ap11) #[] (List.toArray cp11)].toArray w0 (Ret noB w0 fun v w => v = .bool (r)) := by
 unfold text_follows at hg
 refine enter M noB func62 rfl rfl hM ?_
 intro a s
 replace s := s.add 101 (fnF Try.prog Ap11 cp11 pre69 post69 (letter_)) (by exact Fact.change _ enterM hp11)
 apply wR
 refine asg s rfl rfl fun a s => ?_
 apply wN
 apply wQ
 apply wQ
 obtain ⟨k1, hg, hk1⟩ := jn_some hg
 refine c_post (fun a w => ∃ (t_2 : Bool), k1 t_2 = some r ∧ St (⟨Try.f62.ntmps, M, noB, w0⟩ : Ctx) [(0, vT s_), (1, .func (.func Ap11) #[] (List.toArray cp11)), (14, .bool (t_2))] [] [(101, fnF Try.prog Ap11 cp11 pre69 post69 (letter_))] a w) ?_ ?_
 ·rcases Decidable.em (((s_).length) = 0) with hs3 | hs3
  ·have hs3e := decide_eq_true hs3
   replace hg := br_t hg hs3
   apply wL
   refine mv s rfl rfl fun a s => ?_
   refine qq s rfl (y_lenStrN s rfl underlying9) fun a s => ?_
   refine qq s rfl (yl_b (y_eqlN (i := ((s_).length)) (j := 0) s rfl rfl) hs3e) fun a s => ?_
   refine mv s rfl rfl fun a s => ?_
   refine gn s rfl fun a s => ?_
   refine gn s rfl fun a s => ?_
   refine gn s rfl fun a s => ?_
   refine qq s rfl (y_pick_t s rfl rfl) fun a s => ?_
   apply wN
   exact ⟨(true), hg, (s.sb rfl rfl rfl)⟩
  have hs3e := decide_eq_false hs3
  replace hg := br_f hg hs3
  apply wL
  refine mv s rfl rfl fun a s => ?_
  refine qq s rfl (y_lenStrN s rfl underlying9) fun a s => ?_
  refine qq s rfl (yl_b (y_eqlN (i := ((s_).length)) (j := 0) s rfl rfl) hs3e) fun a s => ?_
  refine mv s rfl rfl fun a s => ?_
  refine gm s rfl rfl fun a s => ?_
  refine gy s rfl (y_lenStrN s rfl underlying9) fun a s => ?_
  refine gy s rfl (y_gtrN (i := ((s_).length)) (j := 32) s rfl rfl) fun a s => ?_
  refine qq s rfl (y_pick_f s rfl rfl) fun a s => ?_
  apply wN
  exact ⟨(decide ((32 : Nat) < ((s_).length))), hg, (s.sb rfl rfl rfl)⟩
 clear s a; rintro a w ⟨t_2, hg, s⟩
 subst hk1
 refine c_cond s rfl (fun hc4 => ?_) (fun hc4 => ?_)
 ·replace hg := br_t hg hc4
  apply wR
  refine asg s rfl rfl fun a s => ?_
  apply wN
  apply wp_ret
  refine p_thenR ?_
  obtain rfl := Option.some.inj hg
  refine fin1 (fn := Try.f62) s rfl (r_tmp s rfl) ?_
  exact rfl
 replace hg := br_n hg hc4
 apply wp_skip
 apply pN
 apply wQ
 apply wR
 refine mv s rfl rfl fun a s => ?_
 refine l_seq rfl (l_range s 1301 rfl underlying9 rfl rfl fun b6 a w hb hK s => ?_)
 apply wN
 apply wp_block
 refine c_loop (σ := Nat) (fun m1 a w => ∃ (pos_7 : Nat), text_follows_L0 n s_ letter_ m1 pos_7 = some r ∧ St (⟨Try.f62.ntmps, M, noB, w0⟩ : Ctx) [(1, .func (.func Ap11) #[] (List.toArray cp11)), (16, vP b6 0)] [(1301, Ob.iter b6 (bs (s_)) (pos_7))] [(101, fnF Try.prog Ap11 cp11 pre69 post69 (letter_))] a w) (fun m1 => m1) n ⟨(0), hg, (s.sb rfl rfl rfl)⟩ ?_
 clear s a; rintro m1 a w ⟨pos_7, hg, s⟩
 rcases m1 with _ | m1
 ·rw [text_follows_L0] at hg; cases hg
 rw [text_follows_L0] at hg
 apply wQ
 rcases Decidable.em (pos_7 < (s_).length) with hs8 | hs8
 ·have hs8e := decide_eq_true hs8
  replace hg := br_t hg hs8
  have hmx9 : (s_).length ≤ 9223372036854775807 := (by omega)
  apply wL
  refine l_seq rfl (l_next s 1301 rfl rfl hs8 rfl fun a w hK s => ?_)
  refine qq s rfl (y_extract s rfl rfl) fun a s => ?_
  apply wN
  apply wQ
  refine c_t s rfl ?_
  apply wp_skip
  apply pN
  apply wp_block
  apply wR
  refine qq s rfl (y_extract s rfl rfl) fun a s => ?_
  refine qq s rfl (y_extract s rfl rfl) fun a s => ?_
  refine asg s rfl rfl fun a s => ?_
  refine asg s rfl rfl fun a s => ?_
  apply wN
  apply wQ
  obtain ⟨k10, hg, hk10⟩ := jn_some hg
  refine c_post (fun a w => ∃ (t_11 : Bool), k10 t_11 = some r ∧ St (⟨Try.f62.ntmps, M, noB, w0⟩ : Ctx) [(1, .func (.func Ap11) #[] (List.toArray cp11)), (16, vP b6 0), (37, .bool (t_11))] [(1301, Ob.iter b6 (bs (s_)) (pos_7 + runeLen s_ pos_7))] [(101, fnF Try.prog Ap11 cp11 pre69 post69 (letter_))] a w) ?_ ?_
  ·obtain ⟨r12, hr12, hg⟩ := bind_some hg
   rcases Bool.eq_false_or_eq_true (!(r12)) with hs15 | hs15
   ·replace hg := br_t hg hs15
    rcases Decidable.em (pos_7 = 0) with hs16 | hs16
    ·have hs16e := decide_eq_true hs16
     replace hg := br_t hg hs16
     apply wL
     refine mv s rfl rfl fun a s => ?_
     refine mv s rfl rfl fun a s => ?_
     refine l_seq rfl (l_callFn (cap := cp11) (x := (runeAt s_ pos_7)) s rfl (s.ft 101 rfl) rfl rfl rfl hr12 fun v17 a w hK hp s => ?_)
     obtain rfl := hp
     refine qq s rfl (yl_b (y_not s rfl) hs15) fun a s => ?_
     refine mv s rfl rfl fun a s => ?_
     refine gm s rfl rfl fun a s => ?_
     refine gy s rfl (yl_b (y_eqlN (i := pos_7) (j := 0) s rfl rfl) hs16e) fun a s => ?_
     refine gm s rfl rfl fun a s => ?_
     refine gn s rfl fun a s => ?_
     refine gn s rfl fun a s => ?_
     refine gn s rfl fun a s => ?_
     refine gn s rfl fun a s => ?_
     refine gn s rfl fun a s => ?_
     refine gn s rfl fun a s => ?_
     refine gn s rfl fun a s => ?_
     refine gy s rfl (y_pick_t s rfl rfl) fun a s => ?_
     refine qq s rfl (y_pick_t s rfl rfl) fun a s => ?_
     apply wN
     exact ⟨(true), hg, (s.sb rfl rfl rfl)⟩
    have hs16e := decide_eq_false hs16
    replace hg := br_f hg hs16
    obtain ⟨r19, hr19, hg⟩ := bind_some hg
    rcases Bool.eq_false_or_eq_true (!(r19)) with hs22 | hs22
    ·replace hg := br_t hg hs22
     apply wL
     refine mv s rfl rfl fun a s => ?_
     refine mv s rfl rfl fun a s => ?_
     refine l_seq rfl (l_callFn (cap := cp11) (x := (runeAt s_ pos_7)) s rfl (s.ft 101 rfl) rfl rfl rfl hr12 fun v23 a w hK hp s => ?_)
     obtain rfl := hp
     refine qq s rfl (yl_b (y_not s rfl) hs15) fun a s => ?_
     refine mv s rfl rfl fun a s => ?_
     refine gm s rfl rfl fun a s => ?_
     refine gy s rfl (yl_b (y_eqlN (i := pos_7) (j := 0) s rfl rfl) hs16e) fun a s => ?_
     refine gm s rfl rfl fun a s => ?_
     refine gm s rfl rfl fun a s => ?_
     refine gl s rfl (l_call (cap := []) s rfl func67 rfl (by kernel_rfl) rfl rfl (c_text_digit n _ _ s.lt (runeAt s_ pos_7) r19 hr19) fun v25 a w hK hp s => ?_)
     obtain rfl := hp
     refine gy s rfl (yl_b (y_not s rfl) hs22) fun a s => ?_
     refine gm s rfl rfl fun a s => ?_
     refine gm s rfl rfl fun a s => ?_
     refine gy s rfl (y_neq s rfl rfl) fun a s => ?_
     refine gy s rfl (y_pick_t s rfl rfl) fun a s => ?_
     refine gy s rfl (y_pick_f s rfl rfl) fun a s => ?_
     refine qq s rfl (y_pick_t s rfl rfl) fun a s => ?_
     apply wN
     exact ⟨(decide ((runeAt s_ pos_7) ≠ 45)), hg, (s.sb rfl rfl rfl)⟩
    replace hg := br_n hg hs22
    apply wL
    refine mv s rfl rfl fun a s => ?_
    refine mv s rfl rfl fun a s => ?_
    refine l_seq rfl (l_callFn (cap := cp11) (x := (runeAt s_ pos_7)) s rfl (s.ft 101 rfl) rfl rfl rfl hr12 fun v27 a w hK hp s => ?_)
    obtain rfl := hp
    refine qq s rfl (yl_b (y_not s rfl) hs15) fun a s => ?_
    refine mv s rfl rfl fun a s => ?_
    refine gm s rfl rfl fun a s => ?_
    refine gy s rfl (yl_b (y_eqlN (i := pos_7) (j := 0) s rfl rfl) hs16e) fun a s => ?_
    refine gm s rfl rfl fun a s => ?_
    refine gm s rfl rfl fun a s => ?_
    refine gl s rfl (l_call (cap := []) s rfl func67 rfl (by kernel_rfl) rfl rfl (c_text_digit n _ _ s.lt (runeAt s_ pos_7) r19 hr19) fun v29 a w hK hp s => ?_)
    obtain rfl := hp
    refine gy s rfl (yl_b (y_not s rfl) hs22) fun a s => ?_
    refine gm s rfl rfl fun a s => ?_
    refine gn s rfl fun a s => ?_
    refine gn s rfl fun a s => ?_
    refine gy s rfl (y_pick_f s rfl rfl) fun a s => ?_
    refine gy s rfl (y_pick_f s rfl rfl) fun a s => ?_
    refine qq s rfl (y_pick_t s rfl rfl) fun a s => ?_
    apply wN
    exact ⟨(false), hg, (s.sb rfl rfl rfl)⟩
   replace hg := br_n hg hs15
   apply wL
   refine mv s rfl rfl fun a s => ?_
   refine mv s rfl rfl fun a s => ?_
   refine l_seq rfl (l_callFn (cap := cp11) (x := (runeAt s_ pos_7)) s rfl (s.ft 101 rfl) rfl rfl rfl hr12 fun v31 a w hK hp s => ?_)
   obtain rfl := hp
   refine qq s rfl (yl_b (y_not s rfl) hs15) fun a s => ?_
   refine mv s rfl rfl fun a s => ?_
   refine gn s rfl fun a s => ?_
   refine gn s rfl fun a s => ?_
   refine gn s rfl fun a s => ?_
   refine gn s rfl fun a s => ?_
   refine gn s rfl fun a s => ?_
   refine gn s rfl fun a s => ?_
   refine gn s rfl fun a s => ?_
   refine gn s rfl fun a s => ?_
   refine gn s rfl fun a s => ?_
   refine gn s rfl fun a s => ?_
   refine gn s rfl fun a s => ?_
   refine qq s rfl (y_pick_f s rfl rfl) fun a s => ?_
   apply wN
   exact ⟨(false), hg, (s.sb rfl rfl rfl)⟩
  clear s a; rintro a w ⟨t_11, hg, s⟩
  subst hk10
  refine c_cond s rfl (fun hc33 => ?_) (fun hc33 => ?_)
  ·replace hg := br_t hg hc33
   apply wR
   refine asg s rfl rfl fun a s => ?_
   apply wN
   apply wp_ret
   refine p_inR ?_
   refine p_thenR ?_
   refine p_inR ?_
   refine p_thenR ?_
   obtain rfl := Option.some.inj hg
   refine fin1 (fn := Try.f62) s rfl (r_tmp s rfl) ?_
   exact rfl
  replace hg := br_n hg hc33
  apply wp_skip
  refine p_inN ?_
  apply pN
  exact ⟨m1, Nat.lt_succ_self _, ⟨(pos_7 + runeLen s_ pos_7), hg, (s.sb rfl rfl rfl)⟩⟩
 have hs8e := decide_eq_false hs8
 replace hg := br_f hg hs8
 apply wL
 refine l_seq rfl (l_nextE s 1301 rfl rfl hs8 rfl fun a w hK s => ?_)
 refine qq s rfl (y_extract s rfl rfl) fun a s => ?_
 apply wN
 apply wQ
 refine c_f s rfl ?_
 apply wp_exit
 refine p_then ?_
 refine p_then ?_
 refine p_in ?_
 apply pN
 apply wR
 refine asg s rfl rfl fun a s => ?_
 apply wN
 apply wp_ret
 obtain rfl := Option.some.inj hg
 refine fin1 (fn := Try.f62) s rfl (r_tmp s rfl) ?_
 exact rfl
set_option maxHeartbeats 400000 in
theorem c_text_lower (n : Nat) (M : Bs) (w0 : World) (hM : ∀ b, M b → b < w0.heap.size) (c_ : Int) (r : Bool) (hg : text_lower n c_ = some r) :
    Calls Try.prog 63 [.int .i32 (c_)].toArray w0 (Ret noB w0 fun v w => v = .bool (r)) := by
 unfold text_lower at hg
 refine enter M noB func63 rfl rfl hM ?_
 intro a s
 apply wR
 refine asg s rfl rfl fun a s => ?_
 apply wN
 apply wQ
 rcases Decidable.em ((97 : Int) ≤ c_) with hs1 | hs1
 ·have hs1e := decide_eq_true hs1
  replace hg := br_t hg hs1
  apply wL
  refine mv s rfl rfl fun a s => ?_
  refine qq s rfl (yl_b (y_geq s rfl rfl) hs1e) fun a s => ?_
  refine mv s rfl rfl fun a s => ?_
  refine gm s rfl rfl fun a s => ?_
  refine gy s rfl (y_leq s rfl rfl) fun a s => ?_
  refine qq s rfl (y_pick_t s rfl rfl) fun a s => ?_
  refine asg s rfl rfl fun a s => ?_
  apply wN
  apply wp_ret
  obtain rfl := Option.some.inj hg
  refine fin1 (fn := Try.f63) s rfl (r_tmp s rfl) ?_
  exact rfl
 have hs1e := decide_eq_false hs1
 replace hg := br_f hg hs1
 apply wL
 refine mv s rfl rfl fun a s => ?_
 refine qq s rfl (yl_b (y_geq s rfl rfl) hs1e) fun a s => ?_
 refine mv s rfl rfl fun a s => ?_
 refine gn s rfl fun a s => ?_
 refine gn s rfl fun a s => ?_
 refine qq s rfl (y_pick_f s rfl rfl) fun a s => ?_
 refine asg s rfl rfl fun a s => ?_
 apply wN
 apply wp_ret
 obtain rfl := Option.some.inj hg
 refine fin1 (fn := Try.f63) s rfl (r_tmp s rfl) ?_
 exact rfl
set_option maxHeartbeats 400000 in
theorem c_text_Name (n : Nat) (M : Bs) (w0 : World) (hM : ∀ b, M b → b < w0.heap.size) (s_ : (List UInt8)) (lp01 : (s_).length ≤ 9223372036854775807) (r : Bool) (hg : text_Name n s_ = some r) :
    Calls Try.prog 52 [.string (bs (s_))].toArray w0 (Ret noB w0 fun v w => v = .bool (r)) := by
 unfold text_Name at hg
 refine enter M noB func52 rfl rfl hM ?_
 intro a s
 apply wR
 refine asg s rfl rfl fun a s => ?_
 apply wN
 apply wQ
 obtain ⟨r1, hr1, hg⟩ := bind_some hg
 apply wL
 refine mv s rfl rfl fun a s => ?_
 refine l_seq rfl (l_call (cap := []) s rfl func62 rfl (by kernel_rfl) rfl rfl (c_text_follows n _ _ s.lt s_ (by omega) (fun p => text_lower n p) (63) ([]) ⟨⟨_, _, func63, rfl, by kernel_rfl⟩, fun M1 w1 hk hm hlt vs x r hp hr => by obtain rfl := hp; exact c_text_lower n M1 w1 hlt (x) r hr⟩ r1 hr1) fun v4 a w hK hp s => ?_)
 obtain rfl := hp
 refine asg s rfl rfl fun a s => ?_
 apply wN
 apply wp_ret
 obtain rfl := Option.some.inj hg
 refine fin1 (fn := Try.f52) s rfl (r_tmp s rfl) ?_
 exact rfl
set_option maxHeartbeats 400000 in
theorem c_poset_names (n : Nat) (M : Bs) (w0 : World) (hM : ∀ b, M b → b < w0.heap.size) (d_ : (List TypeDecl)) (Ap01 : Option Addr) (cp01 : Nat) (hp01 : SlR RTypeDecl M w0 Ap01 (d_).length cp01 (d_)) (r : Int) (hg : poset_names n d_ = some r) :
    Calls Try.prog 32 [.slice (Ap01) ((d_).length) (cp01)].toArray w0 (Ret noB w0 fun v w => v = .int .i64 (r)) := by
 unfold poset_names at hg
 refine enter M noB func32 rfl rfl hM ?_
 intro a s
 replace s := s.es 101 hp01
 apply wR
 refine asg s rfl rfl fun a s => ?_
 apply wN
 apply wR
 refine mv s rfl rfl fun a s => ?_
 refine qq s rfl (y_lenSlice s rfl underlying22) fun a s => ?_
 refine l_seq rfl (l_makeMap (n := (((d_).length : Nat) : Int)) s 1102 underlying55 (.inr rfl) rfl rfl fun b2 a w hb hK s => ?_)
 replace s := s.add 103 (kvF Rep.bool ([]) ([])) (KvRel.nil)
 refine asg s rfl rfl fun a s => ?_
 apply wN
 apply wQ
 apply wR
 refine mv s rfl rfl fun a s => ?_
 refine qq s rfl (y_lenSlice s rfl underlying22) fun a s => ?_
 refine mv s rfl rfl fun a s => ?_
 apply wN
 apply wp_block
 replace s := s.al 104 103 rfl
 refine c_loop (σ := Nat) (fun m1 a w => ∃ (seen_3 : (List (List UInt8 × Bool))) (t_5 : Nat) (kv4 : List (List UInt8 × Value)), poset_names_L0 n d_ m1 seen_3 t_5 = some r ∧ St (⟨Try.f32.ntmps, M, noB, w0⟩ : Ctx) [(3, .map (some b2)), (9, sl Ap01 (d_) cp01), (10, vI ((((d_).length : Nat) : Int))), (11, vI (((t_5 : Nat) : Int)))] [(1102, Ob.smap b2 (kv4))] [(101, slF RTypeDecl (Ap01) ((d_).length) (cp01) (d_)), (104, kvF Rep.bool (kv4) (seen_3))] a w) (fun m1 => m1) n ⟨([]), (0), ([]), hg, (s.sb rfl rfl rfl)⟩ ?_
 clear s a; rintro m1 a w ⟨seen_3, t_5, kv4, hg, s⟩
 rcases m1 with _ | m1
 ·rw [poset_names_L0] at hg; cases hg
 rw [poset_names_L0] at hg
 apply wR
 refine qq s rfl (y_lssN (i := t_5) (j := ((d_).length)) s rfl rfl) fun a s => ?_
 apply wN
 apply wQ
 refine c_dec s rfl (fun hc6 => ?_) (fun hc6 => ?_)
 ·replace hg := br_t hg hc6
  have hmx7 := SlR.mx (s.ft 101 rfl)
  apply wp_skip
  apply pN
  apply wQ
  apply wp_block
  apply wQ
  obtain ⟨x9, hx9, hg⟩ := bind_some hg
  apply wL
  obtain ⟨p12, hep12, hpp12⟩ := SlR.elemX (s.ft 101 rfl) hx9
  refine qq s rfl (y_elem (sz := 3) (i := t_5) s rfl rfl underlying22 rfl hep12 rfl (lt_of_get hx9)) fun a s => ?_
  obtain ⟨hlq13, hmq13, csq13, hdq13, hcq13⟩ := hpp12
  obtain ⟨Aq132, cq132, Aq133, cq133, rfl, lq131, hq132, hq133⟩ := RTypeDecl.open hdq13
  replace s := s.ns 107 hq132
  replace s := s.ns 108 hq133
  refine qq s rfl (y_ldp s rfl hlq13 hmq13 (by simpa using hcq13) underlying40 rfl rfl) fun a s => ?_
  refine l_seq rfl (l_alloc (zs := [vT ([]), .slice (none) (0) (0), .slice (none) (0) (0)]) s 1402 rfl rfl rfl rfl fun b14 a w hb hK s => ?_)
  refine l_seq rfl (l_store (n := 3) (cs' := [vT (x9.Name), sl Aq132 (x9.Supers) cq132, sl Aq133 (x9.Feats) cq133]) s 1402 rfl rfl rfl rfl rfl rfl rfl rfl ?_); clear s; intro w hK s; clear hK
  apply wN
  apply wQ
  apply wQ
  obtain ⟨r15, hr15, hg⟩ := bind_some hg
  apply wL
  refine qq s rfl (y_boxField (o' := 0) s rfl underlying40 rfl rfl rfl) fun a s => ?_
  refine qq s rfl (y_loadBox1 (kk := 1402) s rfl rfl rfl underlying9 rfl) fun a s => ?_
  refine l_seq rfl (l_call (cap := []) s rfl func52 rfl (by kernel_rfl) rfl rfl (c_text_Name n _ _ s.lt x9.Name (by omega) r15 hr15) fun v18 a w hK hp s => ?_)
  obtain rfl := hp
  refine qq s rfl (y_not s rfl) fun a s => ?_
  apply wN
  refine c_cond s rfl (fun hc20 => ?_) (fun hc20 => ?_)
  ·replace hg := br_t hg hc20
   apply wR
   refine asg s rfl rfl fun a s => ?_
   apply wN
   apply wp_ret
   refine p_thenR ?_
   refine p_inR ?_
   refine p_thenR ?_
   refine p_thenR ?_
   refine p_inR ?_
   refine p_thenR ?_
   obtain rfl := Option.some.inj hg
   refine fin1 (fn := Try.f32) s rfl (r_tmp s rfl) ?_
   exact rfl
  replace hg := br_n hg hc20
  apply wp_skip
  apply pN
  apply wQ
  apply wR
  refine mv s rfl rfl fun a s => ?_
  refine qq s rfl (y_boxField (o' := 0) s rfl underlying40 rfl rfl rfl) fun a s => ?_
  refine qq s rfl (y_loadBox1 (kk := 1402) s rfl rfl rfl underlying9 rfl) fun a s => ?_
  have hm22 := kvF_getD (R := Rep.bool) (k := x9.Name) (z := .bool (false)) (zx := false) (s.ft 104 rfl) (by exact rfl)
  have em22 := hm22
  refine qq s rfl (y_lookupV (kk := 1102) s rfl rfl rfl underlying55 underlying9 rfl em22) fun a s => ?_
  apply wN
  refine c_cond s rfl (fun hc23 => ?_) (fun hc23 => ?_)
  ·replace hg := br_t hg hc23
   apply wR
   refine asg s rfl rfl fun a s => ?_
   apply wN
   apply wp_ret
   refine p_thenR ?_
   refine p_inR ?_
   refine p_thenR ?_
   refine p_thenR ?_
   refine p_inR ?_
   refine p_thenR ?_
   obtain rfl := Option.some.inj hg
   refine fin1 (fn := Try.f32) s rfl (r_tmp s rfl) ?_
   exact rfl
  replace hg := br_n hg hc23
  apply wp_skip
  apply pN
  apply wL
  refine mv s rfl rfl fun a s => ?_
  refine qq s rfl (y_boxField (o' := 0) s rfl underlying40 rfl rfl rfl) fun a s => ?_
  refine qq s rfl (y_loadBox1 (kk := 1402) s rfl rfl rfl underlying9 rfl) fun a s => ?_
  refine l_seq rfl (l_mapUpdate s 1102 rfl rfl rfl rfl underlying55 underlying9 fun w hK s => ?_)
  replace s := s.add 110 (kvF Rep.bool (mset (kv4) (x9.Name) (.bool (true))) (mset (seen_3) (x9.Name) (true))) (kvF_set (s.ft 104 rfl) (by exact rfl))
  apply wO
  refine p_inN ?_
  apply pN
  apply wL
  refine qq s rfl (y_addN (i := t_5) (j := 1) s rfl rfl (in64.2 (by omega))) fun a s => ?_
  refine mv s rfl rfl fun a s => ?_
  apply wN
  replace s := s.al 104 110 rfl
  exact ⟨m1, Nat.lt_succ_self _, ⟨(mset (seen_3) (x9.Name) (true)), (t_5 + 1), (mset (kv4) (x9.Name) (.bool (true))), hg, (s.sb rfl rfl rfl)⟩⟩
 replace hg := br_f hg hc6
 apply wp_exit
 refine p_then ?_
 refine p_then ?_
 refine p_in ?_
 apply pN
 apply wR
 refine asg s rfl rfl fun a s => ?_
 apply wN
 apply wp_ret
 obtain rfl := Option.some.inj hg
 refine fin1 (fn := Try.f32) s rfl (r_tmp s rfl) ?_
 exact rfl
set_option maxHeartbeats 400000 in
theorem c_poset_supers (n : Nat) (M : Bs) (w0 : World) (hM : ∀ b, M b → b < w0.heap.size) (d_ : (List TypeDecl)) (Ap01 : Option Addr) (cp01 : Nat) (hp01 : SlR RTypeDecl M w0 Ap01 (d_).length cp01 (d_)) (r : (List (List UInt8 × (List (List UInt8))))) (hg : poset_supers n d_ = some r) :
    Calls Try.prog 41 [.slice (Ap01) ((d_).length) (cp01)].toArray w0 (Ret noB w0 fun v w => ∃ (ba1 : Nat), v = .map (some ba1) ∧ (MapR (Rep.list Rep.str) M w ba1 (r))) := by
 unfold poset_supers at hg
 refine enter M noB func41 rfl rfl hM ?_
 intro a s
 replace s := s.es 101 hp01
 apply wR
 refine asg s rfl rfl fun a s => ?_
 apply wN
 apply wR
 refine mv s rfl rfl fun a s => ?_
 refine qq s rfl (y_lenSlice s rfl underlying22) fun a s => ?_
 refine l_seq rfl (l_makeMap (n := (((d_).length : Nat) : Int)) s 1102 underlying49 (.inr rfl) rfl rfl fun b2 a w hb hK s => ?_)
 replace s := s.add 103 (kvF (Rep.list Rep.str) ([]) ([])) (KvRel.nil)
 refine asg s rfl rfl fun a s => ?_
 apply wN
 apply wQ
 apply wR
 refine mv s rfl rfl fun a s => ?_
 refine qq s rfl (y_lenSlice s rfl underlying22) fun a s => ?_
 refine mv s rfl rfl fun a s => ?_
 apply wN
 apply wp_block
 replace s := s.al 104 103 rfl
 refine c_loop (σ := Nat) (fun m1 a w => ∃ (out_3 : (List (List UInt8 × (List (List UInt8))))), ∃ (t_5 : Nat) (kv4 : List (List UInt8 × Value)), poset_supers_L0 n d_ m1 out_3 t_5 = some r ∧ St (⟨Try.f41.ntmps, M, noB, w0⟩ : Ctx) [(3, .map (some b2)), (9, sl Ap01 (d_) cp01), (10, vI ((((d_).length : Nat) : Int))), (11, vI (((t_5 : Nat) : Int)))] [(1102, Ob.smap b2 (kv4))] [(101, slF RTypeDecl (Ap01) ((d_).length) (cp01) (d_)), (104, kvF (Rep.list Rep.str) (kv4) (out_3))] a w) (fun m1 => m1) n ⟨([]), (0), ([]), hg, (s.sb rfl rfl rfl)⟩ ?_
 clear s a; rintro m1 a w ⟨out_3, t_5, kv4, hg, s⟩
 rcases m1 with _ | m1
 ·rw [poset_supers_L0] at hg; cases hg
 rw [poset_supers_L0] at hg
 apply wR
 refine qq s rfl (y_lssN (i := t_5) (j := ((d_).length)) s rfl rfl) fun a s => ?_
 apply wN
 apply wQ
 refine c_dec s rfl (fun hc6 => ?_) (fun hc6 => ?_)
 ·replace hg := br_t hg hc6
  have hmx7 := SlR.mx (s.ft 101 rfl)
  apply wp_skip
  apply pN
  apply wQ
  apply wp_block
  apply wQ
  obtain ⟨x9, hx9, hg⟩ := bind_some hg
  apply wL
  obtain ⟨p12, hep12, hpp12⟩ := SlR.elemX (s.ft 101 rfl) hx9
  refine qq s rfl (y_elem (sz := 3) (i := t_5) s rfl rfl underlying22 rfl hep12 rfl (lt_of_get hx9)) fun a s => ?_
  obtain ⟨hlq13, hmq13, csq13, hdq13, hcq13⟩ := hpp12
  obtain ⟨Aq132, cq132, Aq133, cq133, rfl, lq131, hq132, hq133⟩ := RTypeDecl.open hdq13
  replace s := s.ns 107 hq132
  replace s := s.ns 108 hq133
  refine qq s rfl (y_ldp s rfl hlq13 hmq13 (by simpa using hcq13) underlying40 rfl rfl) fun a s => ?_
  refine l_seq rfl (l_alloc (zs := [vT ([]), .slice (none) (0) (0), .slice (none) (0) (0)]) s 1402 rfl rfl rfl rfl fun b14 a w hb hK s => ?_)
  refine l_seq rfl (l_store (n := 3) (cs' := [vT (x9.Name), sl Aq132 (x9.Supers) cq132, sl Aq133 (x9.Feats) cq133]) s 1402 rfl rfl rfl rfl rfl rfl rfl rfl ?_); clear s; intro w hK s; clear hK
  apply wN
  apply wL
  refine mv s rfl rfl fun a s => ?_
  refine qq s rfl (y_boxField (o' := 0) s rfl underlying40 rfl rfl rfl) fun a s => ?_
  refine qq s rfl (y_loadBox1 (kk := 1402) s rfl rfl rfl underlying9 rfl) fun a s => ?_
  refine qq s rfl (y_boxField (o' := 1) s rfl underlying40 rfl rfl rfl) fun a s => ?_
  refine qq s rfl (y_loadBox1 (kk := 1402) s rfl rfl rfl underlying27 rfl) fun a s => ?_
  refine l_seq rfl (l_mapUpdate s 1102 rfl rfl rfl rfl underlying49 underlying9 fun w hK s => ?_)
  replace s := s.add 110 (kvF (Rep.list Rep.str) (mset (kv4) (x9.Name) (sl Aq132 (x9.Supers) cq132)) (mset (out_3) (x9.Name) (x9.Supers))) (kvF_set (s.ft 104 rfl) (by exact ⟨_, _, _, rfl, (s.ft 107 rfl)⟩))
  apply wO
  refine p_inN ?_
  apply pN
  apply wL
  refine qq s rfl (y_addN (i := t_5) (j := 1) s rfl rfl (in64.2 (by omega))) fun a s => ?_
  refine mv s rfl rfl fun a s => ?_
  apply wN
  replace s := s.add 104 (kvF (Rep.list Rep.str) (mset (kv4) (x9.Name) (sl Aq132 (x9.Supers) cq132)) (mset (out_3) (x9.Name) (x9.Supers))) (s.ft 110 rfl)
  exact ⟨m1, Nat.lt_succ_self _, ⟨(mset (out_3) (x9.Name) (x9.Supers)), (t_5 + 1), (mset (kv4) (x9.Name) (sl Aq132 (x9.Supers) cq132)), hg, (s.sb rfl rfl rfl)⟩⟩
 replace hg := br_f hg hc6
 apply wp_exit
 refine p_then ?_
 refine p_then ?_
 refine p_in ?_
 apply pN
 apply wR
 refine mv s rfl rfl fun a s => ?_
 refine asg s rfl rfl fun a s => ?_
 apply wN
 apply wp_ret
 replace s := s.freezeMapR (R := (Rep.list Rep.str)) (L' := []) 111 1102 rfl (s.ft 104 rfl) trivial rfl
 obtain rfl := Option.some.inj hg
 refine fin1 (fn := Try.f41) s rfl (r_tmp s rfl) ?_
 exact ⟨b2, rfl, (s.out (k := 111) rfl)⟩
set_option maxHeartbeats 400000 in
theorem c_slices_Index_string (n : Nat) (M : Bs) (w0 : World) (hM : ∀ b, M b → b < w0.heap.size) (s_ : (List (List UInt8))) (Ap01 : Option Addr) (cp01 : Nat) (hp01 : SlR Rep.str M w0 Ap01 (s_).length cp01 (s_)) (v_ : (List UInt8)) (lp11 : (v_).length ≤ 9223372036854775807) (r : Int) (hg : slices_Index_string n s_ v_ = some r) :
    Calls Try.prog 59 [.slice (Ap01) ((s_).length) (cp01), .string (bs (v_))].toArray w0 (Ret noB w0 fun v w => v = .int .i64 (r)) := by
 unfold slices_Index_string at hg
 refine enter M noB func59 rfl rfl hM ?_
 intro a s
 replace s := s.es 101 hp01
 apply wR
 refine asg s rfl rfl fun a s => ?_
 apply wN
 apply wQ
 apply wR
 refine mv s rfl rfl fun a s => ?_
 refine qq s rfl (y_lenSlice s rfl underlying27) fun a s => ?_
 refine mv s rfl rfl fun a s => ?_
 apply wN
 apply wp_block
 refine c_loop (σ := Nat) (fun m1 a w => ∃ (t_1 : Nat), slices_Index_string_L0 n s_ v_ m1 t_1 = some r ∧ St (⟨Try.f59.ntmps, M, noB, w0⟩ : Ctx) [(0, sl Ap01 (s_) cp01), (1, vT v_), (7, vI ((((s_).length : Nat) : Int))), (8, vI (((t_1 : Nat) : Int)))] [] [(101, slF Rep.str (Ap01) ((s_).length) (cp01) (s_))] a w) (fun m1 => m1) n ⟨(0), hg, (s.sb rfl rfl rfl)⟩ ?_
 clear s a; rintro m1 a w ⟨t_1, hg, s⟩
 rcases m1 with _ | m1
 ·rw [slices_Index_string_L0] at hg; cases hg
 rw [slices_Index_string_L0] at hg
 apply wR
 refine qq s rfl (y_lssN (i := t_1) (j := ((s_).length)) s rfl rfl) fun a s => ?_
 apply wN
 apply wQ
 refine c_dec s rfl (fun hc2 => ?_) (fun hc2 => ?_)
 ·replace hg := br_t hg hc2
  have hmx3 := SlR.mx (s.ft 101 rfl)
  apply wp_skip
  apply pN
  apply wQ
  apply wp_block
  apply wR
  refine mv s rfl rfl fun a s => ?_
  refine asg s rfl rfl fun a s => ?_
  apply wN
  apply wQ
  obtain ⟨x5, hx5, hg⟩ := bind_some hg
  apply wL
  refine mv s rfl rfl fun a s => ?_
  refine mv s rfl rfl fun a s => ?_
  refine mv s rfl rfl fun a s => ?_
  obtain ⟨p7, hep7, hpp7⟩ := SlR.elemX (s.ft 101 rfl) hx5
  refine qq s rfl (y_elem (sz := 1) (i := t_1) s rfl rfl underlying27 rfl hep7 rfl (lt_of_get hx5)) fun a s => ?_
  obtain ⟨hlq8, hmq8, csq8, hdq8, hcq8⟩ := hpp7
  obtain ⟨rfl, lq81⟩ := hdq8
  refine qq s rfl (y_ldp1 s rfl hlq8 hmq8 (hcq8 0 _ rfl) underlying9 rfl) fun a s => ?_
  refine qq s rfl (y_seq s rfl rfl) fun a s => ?_
  apply wN
  refine c_dec s rfl (fun hc9 => ?_) (fun hc9 => ?_)
  ·replace hg := br_t hg hc9
   apply wR
   refine mv s rfl rfl fun a s => ?_
   refine asg s rfl rfl fun a s => ?_
   apply wN
   apply wp_ret
   refine p_inR ?_
   refine p_thenR ?_
   refine p_thenR ?_
   refine p_inR ?_
   refine p_thenR ?_
   obtain rfl := Option.some.inj hg
   refine fin1 (fn := Try.f59) s rfl (r_tmp s rfl) ?_
   exact rfl
  replace hg := br_f hg hc9
  apply wp_skip
  refine p_inN ?_
  apply pN
  apply wL
  refine qq s rfl (y_addN (i := t_1) (j := 1) s rfl rfl (in64.2 (by omega))) fun a s => ?_
  refine mv s rfl rfl fun a s => ?_
  apply wN
  exact ⟨m1, Nat.lt_succ_self _, ⟨(t_1 + 1), hg, (s.sb rfl rfl rfl)⟩⟩
 replace hg := br_f hg hc2
 apply wp_exit
 refine p_then ?_
 refine p_then ?_
 refine p_in ?_
 apply pN
 apply wR
 refine asg s rfl rfl fun a s => ?_
 apply wN
 apply wp_ret
 obtain rfl := Option.some.inj hg
 refine fin1 (fn := Try.f59) s rfl (r_tmp s rfl) ?_
 exact rfl
set_option maxHeartbeats 400000 in
theorem c_slices_Contains_string (n : Nat) (M : Bs) (w0 : World) (hM : ∀ b, M b → b < w0.heap.size) (s_ : (List (List UInt8))) (Ap01 : Option Addr) (cp01 : Nat) (hp01 : SlR Rep.str M w0 Ap01 (s_).length cp01 (s_)) (v_ : (List UInt8)) (lp11 : (v_).length ≤ 9223372036854775807) (r : Bool) (hg : slices_Contains_string n s_ v_ = some r) :
    Calls Try.prog 45 [.slice (Ap01) ((s_).length) (cp01), .string (bs (v_))].toArray w0 (Ret noB w0 fun v w => v = .bool (r)) := by
 unfold slices_Contains_string at hg
 refine enter M noB func45 rfl rfl hM ?_
 intro a s
 replace s := s.es 101 hp01
 apply wR
 refine asg s rfl rfl fun a s => ?_
 apply wN
 apply wQ
 obtain ⟨r1, hr1, hg⟩ := bind_some hg
 apply wL
 refine mv s rfl rfl fun a s => ?_
 refine mv s rfl rfl fun a s => ?_
 refine l_seq rfl (l_call (cap := []) s rfl func59 rfl (by kernel_rfl) rfl rfl (c_slices_Index_string n _ _ s.lt s_ (Ap01) (cp01) (s.ft 101 rfl) v_ (by omega) r1 hr1) fun v4 a w hK hp s => ?_)
 obtain rfl := hp
 refine qq s rfl (y_geq s rfl rfl) fun a s => ?_
 refine asg s rfl rfl fun a s => ?_
 apply wN
 apply wp_ret
 obtain rfl := Option.some.inj hg
 refine fin1 (fn := Try.f45) s rfl (r_tmp s rfl) ?_
 exact rfl
set_option maxHeartbeats 400000 in
theorem c_poset_links (n : Nat) (M : Bs) (w0 : World) (hM : ∀ b, M b → b < w0.heap.size) (d_ : (List TypeDecl)) (Ap01 : Option Addr) (cp01 : Nat) (hp01 : SlR RTypeDecl M w0 Ap01 (d_).length cp01 (d_)) (r : Int) (hg : poset_links n d_ = some r) :
    Calls Try.prog 33 [.slice (Ap01) ((d_).length) (cp01)].toArray w0 (Ret noB w0 fun v w => v = .int .i64 (r)) := by
 unfold poset_links at hg
 refine enter M noB func33 rfl rfl hM ?_
 intro a s
 replace s := s.es 101 hp01
 apply wR
 refine asg s rfl rfl fun a s => ?_
 apply wN
 apply wQ
 obtain ⟨r1, hr1, hg⟩ := bind_some hg
 apply wL
 refine mv s rfl rfl fun a s => ?_
 refine l_seq rfl (l_call (cap := []) s rfl func41 rfl (by kernel_rfl) rfl rfl (c_poset_supers n _ _ s.lt d_ (Ap01) (cp01) (s.ft 101 rfl) r1 hr1) fun v4 a w hK hp s => ?_)
 obtain ⟨bu5a1, rfl, hu5a1⟩ := hp
 replace s := s.add 103 (mapRF (Rep.list Rep.str) bu5a1 (r1)) hu5a1
 refine asg s rfl rfl fun a s => ?_
 apply wN
 apply wQ
 apply wR
 refine mv s rfl rfl fun a s => ?_
 refine qq s rfl (y_lenSlice s rfl underlying22) fun a s => ?_
 refine mv s rfl rfl fun a s => ?_
 apply wN
 apply wp_block
 refine c_loop (σ := Nat) (fun m1 a w => ∃ (t_6 : Nat), poset_links_L0 n d_ r1 m1 t_6 = some r ∧ St (⟨Try.f33.ntmps, M, noB, w0⟩ : Ctx) [(3, .map (some bu5a1)), (12, sl Ap01 (d_) cp01), (13, vI ((((d_).length : Nat) : Int))), (14, vI (((t_6 : Nat) : Int)))] [] [(101, slF RTypeDecl (Ap01) ((d_).length) (cp01) (d_)), (103, mapRF (Rep.list Rep.str) bu5a1 (r1))] a w) (fun m1 => m1) n ⟨(0), hg, (s.sb rfl rfl rfl)⟩ ?_
 clear s a; rintro m1 a w ⟨t_6, hg, s⟩
 rcases m1 with _ | m1
 ·rw [poset_links_L0] at hg; cases hg
 rw [poset_links_L0] at hg
 apply wR
 refine qq s rfl (y_lssN (i := t_6) (j := ((d_).length)) s rfl rfl) fun a s => ?_
 apply wN
 apply wQ
 refine c_dec s rfl (fun hc7 => ?_) (fun hc7 => ?_)
 ·replace hg := br_t hg hc7
  have hmx8 := SlR.mx (s.ft 101 rfl)
  apply wp_skip
  apply pN
  apply wQ
  obtain ⟨k9, hg, hk9⟩ := jn_some hg
  refine c_post (fun a w => k9 = some r ∧ St (⟨Try.f33.ntmps, M, noB, w0⟩ : Ctx) [(3, .map (some bu5a1)), (12, sl Ap01 (d_) cp01), (13, vI ((((d_).length : Nat) : Int))), (14, vI (((t_6 : Nat) : Int)))] [] [(101, slF RTypeDecl (Ap01) ((d_).length) (cp01) (d_)), (103, mapRF (Rep.list Rep.str) bu5a1 (r1))] a w) ?_ ?_
  ·apply wp_block
   apply wQ
   obtain ⟨x11, hx11, hg⟩ := bind_some hg
   apply wL
   obtain ⟨p14, hep14, hpp14⟩ := SlR.elemX (s.ft 101 rfl) hx11
   refine qq s rfl (y_elem (sz := 3) (i := t_6) s rfl rfl underlying22 rfl hep14 rfl (lt_of_get hx11)) fun a s => ?_
   obtain ⟨hlq15, hmq15, csq15, hdq15, hcq15⟩ := hpp14
   obtain ⟨Aq152, cq152, Aq153, cq153, rfl, lq151, hq152, hq153⟩ := RTypeDecl.open hdq15
   replace s := s.ns 106 hq152
   replace s := s.ns 107 hq153
   refine qq s rfl (y_ldp s rfl hlq15 hmq15 (by simpa using hcq15) underlying40 rfl rfl) fun a s => ?_
   refine l_seq rfl (l_alloc (zs := [vT ([]), .slice (none) (0) (0), .slice (none) (0) (0)]) s 1402 rfl rfl rfl rfl fun b16 a w hb hK s => ?_)
   refine l_seq rfl (l_store (n := 3) (cs' := [vT (x11.Name), sl Aq152 (x11.Supers) cq152, sl Aq153 (x11.Feats) cq153]) s 1402 rfl rfl rfl rfl rfl rfl rfl rfl ?_); clear s; intro w hK s; clear hK
   apply wN
   apply wR
   refine qq s rfl (y_boxField (o' := 1) s rfl underlying40 rfl rfl rfl) fun a s => ?_
   refine qq s rfl (y_loadBox1 (kk := 1402) s rfl rfl rfl underlying27 rfl) fun a s => ?_
   refine qq s rfl (y_lenSlice s rfl underlying27) fun a s => ?_
   refine mv s rfl rfl fun a s => ?_
   apply wN
   apply wp_block
   refine c_loop (σ := Nat) (fun m2 a w => ∃ (t_17 : Nat), poset_links_L1 n r1 k9 x11 m2 t_17 = some r ∧ St (⟨Try.f33.ntmps, M, noB, w0⟩ : Ctx) [(3, .map (some bu5a1)), (5, vP b16 0), (12, sl Ap01 (d_) cp01), (13, vI ((((d_).length : Nat) : Int))), (14, vI (((t_6 : Nat) : Int))), (19, sl Aq152 (x11.Supers) cq152), (20, vI ((((x11.Supers).length : Nat) : Int))), (21, vI (((t_17 : Nat) : Int)))] [(1402, Ob.box b16 [vT (x11.Name), sl Aq152 (x11.Supers) cq152, sl Aq153 (x11.Feats) cq153] 40)] [(101, slF RTypeDecl (Ap01) ((d_).length) (cp01) (d_)), (103, mapRF (Rep.list Rep.str) bu5a1 (r1)), (106, slF Rep.str (Aq152) ((x11.Supers).length) (cq152) (x11.Supers)), (107, slF RFeatDecl (Aq153) ((x11.Feats).length) (cq153) (x11.Feats))] a w) (fun m2 => m2) n ⟨(0), hg, (s.sb rfl rfl rfl)⟩ ?_
   clear s a; rintro m2 a w ⟨t_17, hg, s⟩
   rcases m2 with _ | m2
   ·rw [poset_links_L1] at hg; cases hg
   rw [poset_links_L1] at hg
   apply wR
   refine qq s rfl (y_lssN (i := t_17) (j := ((x11.Supers).length)) s rfl rfl) fun a s => ?_
   apply wN
   apply wQ
   refine c_dec s rfl (fun hc18 => ?_) (fun hc18 => ?_)
   ·replace hg := br_t hg hc18
    have hmx19 := SlR.mx (s.ft 106 rfl)
    apply wp_skip
    apply pN
    apply wQ
    apply wp_block
    apply wQ
    obtain ⟨x21, hx21, hg⟩ := bind_some hg
    apply wL
    refine mv s rfl rfl fun a s => ?_
    obtain ⟨p23, hep23, hpp23⟩ := SlR.elemX (s.ft 106 rfl) hx21
    refine qq s rfl (y_elem (sz := 1) (i := t_17) s rfl rfl underlying27 rfl hep23 rfl (lt_of_get hx21)) fun a s => ?_
    obtain ⟨hlq24, hmq24, csq24, hdq24, hcq24⟩ := hpp23
    obtain ⟨rfl, lq241⟩ := hdq24
    refine qq s rfl (y_ldp1 s rfl hlq24 hmq24 (hcq24 0 _ rfl) underlying9 rfl) fun a s => ?_
    refine asg s rfl rfl fun a s => ?_
    refine asg s rfl rfl fun a s => ?_
    apply wN
    apply wQ
    apply wR
    refine mv s rfl rfl fun a s => ?_
    refine mv s rfl rfl fun a s => ?_
    obtain ⟨kvm26, hmm26, hfm26⟩ := mapRF_open (s.ft 103 rfl)
    have hm26 := kvF_getD (R := (Rep.list Rep.str)) (k := x21) (z := .slice (none) (0) (0)) (zx := []) hfm26 (by exact ⟨_, _, _, rfl, (SlR.nil_ _ _ _)⟩)
    obtain ⟨Am261, nnm26, cm261, em26, hm261⟩ := hm26
    obtain rfl := hm261.len
    replace s := s.ns 109 hm261
    refine qq s rfl (y_lookupOkFV s rfl rfl hmm26 underlying49 underlying9 rfl em26 (kvF_isSome hfm26)) fun a s => ?_
    refine mv s rfl rfl fun a s => ?_
    refine qq s rfl (y_extract s rfl rfl) fun a s => ?_
    refine qq s rfl (y_extract s rfl rfl) fun a s => ?_
    refine asg s rfl rfl fun a s => ?_
    refine asg s rfl rfl fun a s => ?_
    apply wN
    apply wR
    refine mv s rfl rfl fun a s => ?_
    refine qq s rfl (y_not s rfl) fun a s => ?_
    apply wN
    refine c_cond s rfl (fun hc27 => ?_) (fun hc27 => ?_)
    ·replace hg := br_t hg hc27
     apply wR
     refine asg s rfl rfl fun a s => ?_
     apply wN
     apply wp_ret
     refine p_thenR ?_
     refine p_inR ?_
     refine p_thenR ?_
     refine p_thenR ?_
     refine p_inR ?_
     refine p_inR ?_
     refine p_thenR ?_
     refine p_thenR ?_
     refine p_inR ?_
     refine p_thenR ?_
     obtain rfl := Option.some.inj hg
     refine fin1 (fn := Try.f33) s rfl (r_tmp s rfl) ?_
     exact rfl
    replace hg := br_n hg hc27
    apply wp_skip
    apply pN
    apply wQ
    obtain ⟨hk28, hg⟩ := chk_some hg
    obtain ⟨r29, hr29, hg⟩ := bind_some hg
    apply wL
    refine qq s rfl (y_boxField (o' := 1) s rfl underlying40 rfl rfl rfl) fun a s => ?_
    refine qq s rfl (y_loadBox1 (kk := 1402) s rfl rfl rfl underlying27 rfl) fun a s => ?_
    refine mv s rfl rfl fun a s => ?_
    have hcap111 := (s.ft 106 rfl).cap
    refine qq s rfl (y_cutH (xs := x11.Supers) (sz := 1) (i := t_17) s rfl rfl underlying27 rfl rfl hk28 hcap111) fun a s => ?_
    replace s := s.add 111 (slF Rep.str (Aq152) (((x11.Supers).take t_17).length) (cq152) ((x11.Supers).take t_17)) (SlR.cutH (s.ft 106 rfl) t_17 hk28)
    refine mv s rfl rfl fun a s => ?_
    refine l_seq rfl (l_call (cap := []) s rfl func45 rfl (by kernel_rfl) rfl rfl (c_slices_Contains_string n _ _ s.lt ((x11.Supers).take t_17) (Aq152) (cq152) (s.ft 111 rfl) x21 (by omega) r29 hr29) fun v32 a w hK hp s => ?_)
    obtain rfl := hp
    apply wN
    refine c_cond s rfl (fun hc34 => ?_) (fun hc34 => ?_)
    ·replace hg := br_t hg hc34
     apply wR
     refine asg s rfl rfl fun a s => ?_
     apply wN
     apply wp_ret
     refine p_inR ?_
     refine p_thenR ?_
     refine p_thenR ?_
     refine p_inR ?_
     refine p_inR ?_
     refine p_thenR ?_
     refine p_thenR ?_
     refine p_inR ?_
     refine p_thenR ?_
     obtain rfl := Option.some.inj hg
     refine fin1 (fn := Try.f33) s rfl (r_tmp s rfl) ?_
     exact rfl
    replace hg := br_n hg hc34
    apply wp_skip
    refine p_inN ?_
    apply pN
    apply wL
    refine qq s rfl (y_addN (i := t_17) (j := 1) s rfl rfl (in64.2 (by omega))) fun a s => ?_
    refine mv s rfl rfl fun a s => ?_
    apply wN
    exact ⟨m2, Nat.lt_succ_self _, ⟨(t_17 + 1), hg, (s.sb rfl rfl rfl)⟩⟩
   replace hg := br_f hg hc18
   apply wp_exit
   refine p_then ?_
   refine p_then ?_
   refine p_in ?_
   refine p_inN ?_
   apply pN
   exact ⟨hg, (s.sb rfl rfl rfl)⟩
  clear s a; rintro a w ⟨hg, s⟩
  subst hk9
  apply wL
  refine qq s rfl (y_addN (i := t_6) (j := 1) s rfl rfl (in64.2 (by omega))) fun a s => ?_
  refine mv s rfl rfl fun a s => ?_
  apply wN
  exact ⟨m1, Nat.lt_succ_self _, ⟨(t_6 + 1), hg, (s.sb rfl rfl rfl)⟩⟩
 replace hg := br_f hg hc7
 apply wp_exit
 refine p_then ?_
 refine p_then ?_
 refine p_in ?_
 apply pN
 apply wR
 refine asg s rfl rfl fun a s => ?_
 apply wN
 apply wp_ret
 obtain rfl := Option.some.inj hg
 refine fin1 (fn := Try.f33) s rfl (r_tmp s rfl) ?_
 exact rfl
set_option maxHeartbeats 400000 in
theorem c_slices_IndexFunc_string (n : Nat) (M : Bs) (w0 : World) (hM : ∀ b, M b → b < w0.heap.size) (s_ : (List (List UInt8))) (Ap01 : Option Addr) (cp01 : Nat) (hp01 : SlR Rep.str M w0 Ap01 (s_).length cp01 (s_)) (f_ : ((List UInt8) → Option Bool)) (Ap11 : FuncId) (cp11 : List Value) (hp11 : FnR Try.prog Ap11 cp11 pre53 post53 (f_) M w0) (r : Int) (hg : slices_IndexFunc_string n s_ f_ = some r) :
    Calls Try.prog 60 [.slice (Ap01) ((s_).length) (cp01), .func (.func Ap11) #[] (List.toArray cp11)].toArray w0 (Ret noB w0 fun v w => v = .int .i64 (r)) := by
 unfold slices_IndexFunc_string at hg
 refine enter M noB func60 rfl rfl hM ?_
 intro a s
 replace s := s.es 101 hp01
 replace s := s.add 102 (fnF Try.prog Ap11 cp11 pre53 post53 (f_)) (by exact Fact.change _ enterM hp11)
 apply wR
 refine asg s rfl rfl fun a s => ?_
 apply wN
 apply wQ
 apply wR
 refine mv s rfl rfl fun a s => ?_
 refine qq s rfl (y_lenSlice s rfl underlying27) fun a s => ?_
 refine mv s rfl rfl fun a s => ?_
 apply wN
 apply wp_block
 refine c_loop (σ := Nat) (fun m1 a w => ∃ (t_1 : Nat), slices_IndexFunc_string_L0 n s_ f_ m1 t_1 = some r ∧ St (⟨Try.f60.ntmps, M, noB, w0⟩ : Ctx) [(0, sl Ap01 (s_) cp01), (1, .func (.func Ap11) #[] (List.toArray cp11)), (7, vI ((((s_).length : Nat) : Int))), (8, vI (((t_1 : Nat) : Int)))] [] [(101, slF Rep.str (Ap01) ((s_).length) (cp01) (s_)), (102, fnF Try.prog Ap11 cp11 pre53 post53 (f_))] a w) (fun m1 => m1) n ⟨(0), hg, (s.sb rfl rfl rfl)⟩ ?_
 clear s a; rintro m1 a w ⟨t_1, hg, s⟩
 rcases m1 with _ | m1
 ·rw [slices_IndexFunc_string_L0] at hg; cases hg
 rw [slices_IndexFunc_string_L0] at hg
 apply wR
 refine qq s rfl (y_lssN (i := t_1) (j := ((s_).length)) s rfl rfl) fun a s => ?_
 apply wN
 apply wQ
 refine c_dec s rfl (fun hc2 => ?_) (fun hc2 => ?_)
 ·replace hg := br_t hg hc2
  have hmx3 := SlR.mx (s.ft 101 rfl)
  apply wp_skip
  apply pN
  apply wQ
  apply wp_block
  apply wR
  refine mv s rfl rfl fun a s => ?_
  refine asg s rfl rfl fun a s => ?_
  apply wN
  apply wQ
  obtain ⟨x5, hx5, hg⟩ := bind_some hg
  obtain ⟨r7, hr7, hg⟩ := bind_some hg
  apply wL
  refine mv s rfl rfl fun a s => ?_
  refine mv s rfl rfl fun a s => ?_
  refine mv s rfl rfl fun a s => ?_
  obtain ⟨p10, hep10, hpp10⟩ := SlR.elemX (s.ft 101 rfl) hx5
  refine qq s rfl (y_elem (sz := 1) (i := t_1) s rfl rfl underlying27 rfl hep10 rfl (lt_of_get hx5)) fun a s => ?_
  obtain ⟨hlq11, hmq11, csq11, hdq11, hcq11⟩ := hpp10
  obtain ⟨rfl, lq111⟩ := hdq11
  refine qq s rfl (y_ldp1 s rfl hlq11 hmq11 (hcq11 0 _ rfl) underlying9 rfl) fun a s => ?_
  refine l_seq rfl (l_callFn (cap := cp11) (x := x5) s rfl (s.ft 102 rfl) rfl rfl ⟨rfl, (by omega)⟩ hr7 fun v12 a w hK hp s => ?_)
  obtain rfl := hp
  apply wN
  refine c_cond s rfl (fun hc14 => ?_) (fun hc14 => ?_)
  ·replace hg := br_t hg hc14
   apply wR
   refine mv s rfl rfl fun a s => ?_
   refine asg s rfl rfl fun a s => ?_
   apply wN
   apply wp_ret
   refine p_inR ?_
   refine p_thenR ?_
   refine p_thenR ?_
   refine p_inR ?_
   refine p_thenR ?_
   obtain rfl := Option.some.inj hg
   refine fin1 (fn := Try.f60) s rfl (r_tmp s rfl) ?_
   exact rfl
  replace hg := br_n hg hc14
  apply wp_skip
  refine p_inN ?_
  apply pN
  apply wL
  refine qq s rfl (y_addN (i := t_1) (j := 1) s rfl rfl (in64.2 (by omega))) fun a s => ?_
  refine mv s rfl rfl fun a s => ?_
  apply wN
  exact ⟨m1, Nat.lt_succ_self _, ⟨(t_1 + 1), hg, (s.sb rfl rfl rfl)⟩⟩
 replace hg := br_f hg hc2
 apply wp_exit
 refine p_then ?_
 refine p_then ?_
 refine p_in ?_
 apply pN
 apply wR
 refine asg s rfl rfl fun a s => ?_
 apply wN
 apply wp_ret
 obtain rfl := Option.some.inj hg
 refine fin1 (fn := Try.f60) s rfl (r_tmp s rfl) ?_
 exact rfl
end Go.Proofs.Ytoeolfnjblibpaa
