/- Chapter 03: the walks, part 1 -/
import Derived.Test.YtoeolfnjblibpaaL0
import Derived.Test.YtoeolfnjblibpaaGl37
import Derived.Test.YtoeolfnjblibpaaD1
namespace Go.Proofs.Ytoeolfnjblibpaa
open Go.Gl Go.RowKit Try
set_option linter.unusedVariables false
set_option linter.unusedSimpArgs false
set_option maxRecDepth 4000

set_option maxHeartbeats 1000000 in
theorem c_slices_IndexFunc_TypeDecl (n : Nat) (M : Bs) (w0 : World) (hM : ∀ b, M b → b < w0.heap.size) (s_ : (List TypeDecl)) (Ap01 : Option Addr) (cp01 : Nat) (hp01 : SlR RTypeDecl M w0 Ap01 (s_).length cp01 (s_)) (f_ : (TypeDecl → Option Bool)) (Ap11 : FuncId) (cp11 : List Value) (hp11 : FnR Try.prog Ap11 cp11 pre59 post59 (f_) M w0) (r : Int) (hg : slices_IndexFunc_TypeDecl n s_ f_ = some r) :
    Calls Try.prog 61 [.slice (Ap01) ((s_).length) (cp01), .func (.func Ap11) #[] (List.toArray cp11)].toArray w0 (Ret noB w0 fun v w => v = .int .i64 (r)) := by
 unfold slices_IndexFunc_TypeDecl at hg
 refine enter M noB func61 rfl rfl hM ?_
 intro a s
 replace s := s.es 101 hp01
 replace s := s.add 102 (fnF Try.prog Ap11 cp11 pre59 post59 (f_)) (by exact Fact.change _ enterM hp11)
 apply wR
 refine asg s rfl rfl fun a s => ?_
 apply wN
 apply wQ
 apply wR
 refine mv s rfl rfl fun a s => ?_
 refine qq s rfl (y_lenSlice s rfl underlying22) fun a s => ?_
 refine mv s rfl rfl fun a s => ?_
 apply wN
 apply wp_block
 refine c_loop (σ := Nat) (fun m1 a w => ∃ (t_1 : Nat), slices_IndexFunc_TypeDecl_L0 n s_ f_ m1 t_1 = some r ∧ St (⟨Try.f61.ntmps, M, noB, w0⟩ : Ctx) [(0, sl Ap01 s_ cp01), (1, .func (.func Ap11) #[] (List.toArray cp11)), (7, vI ((((s_).length : Nat) : Int))), (8, vI (((t_1 : Nat) : Int)))] [] [(101, sF RTypeDecl Ap01 cp01 s_), (102, fnF Try.prog Ap11 cp11 pre59 post59 (f_))] a w) (fun m1 => m1) n ⟨(0), hg, (s.sb rfl rfl rfl)⟩ ?_
 clear s a; rintro m1 a w ⟨t_1, hg, s⟩
 rcases m1 with _ | m1
 ·rw [slices_IndexFunc_TypeDecl_L0] at hg; cases hg
 rw [slices_IndexFunc_TypeDecl_L0] at hg
 apply wR
 refine qq s rfl (y_lssN (i := t_1) (j := ((s_).length)) s rfl rfl) fun a s => ?_
 apply wN
 apply wQ
 refine c_dec s rfl (fun hc2 => ?_) (fun hc2 => ?_)
 ·replace hg := br_t hg hc2
  have hmx3 := SlR.mx (s.ft 101 rfl)
  apply wp_skip
  apply pN
  apply wQ
  apply wp_block
  apply wR
  refine mv s rfl rfl fun a s => ?_
  refine asg s rfl rfl fun a s => ?_
  apply wN
  apply wQ
  obtain ⟨x5, hx5, hg⟩ := bind_some hg
  obtain ⟨r7, hr7, hg⟩ := bind_some hg
  apply wL
  refine mv s rfl rfl fun a s => ?_
  refine mv s rfl rfl fun a s => ?_
  refine mv s rfl rfl fun a s => ?_
  obtain ⟨p10, hep10, hpp10⟩ := SlR.elemX (s.ft 101 rfl) hx5
  refine qq s rfl (y_elem (sz := 3) (i := t_1) s rfl rfl underlying22 rfl hep10 rfl (lt_of_get hx5)) fun a s => ?_
  obtain ⟨hlq11, hmq11, csq11, hdq11, hcq11⟩ := hpp10
  obtain ⟨Aq112, cq112, Aq113, cq113, rfl, lq111, hq112, hq113⟩ := RTypeDecl.open hdq11
  replace s := s.ns 105 hq112
  replace s := s.ns 106 hq113
  refine qq s rfl (y_ldp s rfl hlq11 hmq11 (by simpa using hcq11) underlying40 rfl rfl) fun a s => ?_
  refine l_seq rfl (l_callFn (cap := cp11) (x := x5) s rfl (s.ft 102 rfl) rfl rfl ⟨(Aq112), (cq112), (Aq113), (cq113), rfl, (by omega), (s.ft 105 rfl), (s.ft 106 rfl)⟩ hr7 fun v12 a w hK hp s => ?_)
  obtain rfl := hp
  apply wN
  refine c_cond s rfl (fun hc14 => ?_) (fun hc14 => ?_)
  ·replace hg := br_t hg hc14
   apply wR
   refine mv s rfl rfl fun a s => ?_
   refine asg s rfl rfl fun a s => ?_
   apply wN
   apply wp_ret
   refine p_inR ?_
   refine p_thenR ?_
   refine p_thenR ?_
   refine p_inR ?_
   refine p_thenR ?_
   obtain rfl := Option.some.inj hg
   refine fin1 (fn := Try.f61) s rfl (r_tmp s rfl) ?_
   exact rfl
  replace hg := br_n hg hc14
  apply wp_skip
  refine p_inN ?_
  apply pN
  apply wL
  refine qq s rfl (y_addN (i := t_1) (j := 1) s rfl rfl (in64.2 (by omega))) fun a s => ?_
  refine mv s rfl rfl fun a s => ?_
  apply wN
  exact ⟨m1, Nat.lt_succ_self _, ⟨(t_1 + 1), hg, (s.sb rfl rfl rfl)⟩⟩
 replace hg := br_f hg hc2
 apply wp_exit
 refine p_then ?_
 refine p_then ?_
 refine p_in ?_
 apply pN
 apply wR
 refine asg s rfl rfl fun a s => ?_
 apply wN
 apply wp_ret
 obtain rfl := Option.some.inj hg
 refine fin1 (fn := Try.f61) s rfl (r_tmp s rfl) ?_
 exact rfl
set_option maxHeartbeats 1000000 in
theorem c_slices_ContainsFunc_TypeDecl (n : Nat) (M : Bs) (w0 : World) (hM : ∀ b, M b → b < w0.heap.size) (s_ : (List TypeDecl)) (Ap01 : Option Addr) (cp01 : Nat) (hp01 : SlR RTypeDecl M w0 Ap01 (s_).length cp01 (s_)) (f_ : (TypeDecl → Option Bool)) (Ap11 : FuncId) (cp11 : List Value) (hp11 : FnR Try.prog Ap11 cp11 pre59 post59 (f_) M w0) (r : Bool) (hg : slices_ContainsFunc_TypeDecl n s_ f_ = some r) :
    Calls Try.prog 50 [.slice (Ap01) ((s_).length) (cp01), .func (.func Ap11) #[] (List.toArray cp11)].toArray w0 (Ret noB w0 fun v w => v = .bool (r)) := by
 unfold slices_ContainsFunc_TypeDecl at hg
 refine enter M noB func50 rfl rfl hM ?_
 intro a s
 replace s := s.es 101 hp01
 replace s := s.add 102 (fnF Try.prog Ap11 cp11 pre59 post59 (f_)) (by exact Fact.change _ enterM hp11)
 apply wR
 refine asg s rfl rfl fun a s => ?_
 apply wN
 apply wQ
 obtain ⟨r1, hr1, hg⟩ := bind_some hg
 apply wL
 refine mv s rfl rfl fun a s => ?_
 refine mv s rfl rfl fun a s => ?_
 refine lc s rfl func61 (by kernel_rfl) (c_slices_IndexFunc_TypeDecl n _ _ s.lt _ _ _ (s.ft 101 rfl) _ _ _ (s.ft 102 rfl) _ hr1) fun v4 a w hK hp s => ?_
 obtain rfl := hp
 refine qq s rfl (y_geq s rfl rfl) fun a s => ?_
 refine asg s rfl rfl fun a s => ?_
 apply wN
 apply wp_ret
 obtain rfl := Option.some.inj hg
 refine fin1 (fn := Try.f50) s rfl (r_tmp s rfl) ?_
 exact rfl
set_option maxHeartbeats 1000000 in
theorem c_poset_long_1 (n : Nat) (M : Bs) (w0 : World) (hM : ∀ b, M b → b < w0.heap.size) (x_ : TypeDecl) (Ap02 : Option Addr) (cp02 : Nat) (Ap03 : Option Addr) (cp03 : Nat) (lp01 : (x_.Name).length ≤ 9223372036854775807) (hp02 : SlR Rep.str M w0 Ap02 (x_.Supers).length cp02 (x_.Supers)) (hp03 : SlR RFeatDecl M w0 Ap03 (x_.Feats).length cp03 (x_.Feats)) (r : Bool) (hg : poset_long_1 n x_ = some r) :
    Calls Try.prog 51 [.agg #[.string (bs (x_.Name)), .slice (Ap02) ((x_.Supers).length) (cp02), .slice (Ap03) ((x_.Feats).length) (cp03)]].toArray w0 (Ret noB w0 fun v w => v = .bool (r)) := by
 unfold poset_long_1 at hg
 refine enter M noB func51 rfl rfl hM ?_
 intro a s
 replace s := s.es 101 hp02
 replace s := s.es 102 hp03
 apply wR
 refine l_seq rfl (l_box (zs := [vT x_.Name, sl Ap02 x_.Supers cp02, sl Ap03 x_.Feats cp03]) s 1000 rfl rfl rfl rfl fun b2 a w hb hK s => ?_)
 refine asg s rfl rfl fun a s => ?_
 apply wN
 apply wQ
 rcases Decidable.em ((256 : Nat) < ((x_.Supers).length)) with hs3 | hs3
 ·have hs3e := decide_eq_true hs3
  replace hg := br_t hg hs3
  have hmx4 := SlR.mx (s.ft 101 rfl)
  apply wL
  refine qq s rfl (y_boxField (o' := 1) s rfl underlying40 rfl rfl rfl) fun a s => ?_
  refine qq s rfl (y_loadBox1 (kk := 1000) s rfl rfl rfl underlying27 rfl) fun a s => ?_
  refine qq s rfl (y_lenSlice s rfl underlying27) fun a s => ?_
  refine qq s rfl (yl_b (y_gtrN (i := ((x_.Supers).length)) (j := 256) s rfl rfl) hs3e) fun a s => ?_
  refine mv s rfl rfl fun a s => ?_
  refine gn s rfl fun a s => ?_
  refine gn s rfl fun a s => ?_
  refine gn s rfl fun a s => ?_
  refine gn s rfl fun a s => ?_
  refine qq s rfl (y_pick_t s rfl rfl) fun a s => ?_
  refine asg s rfl rfl fun a s => ?_
  apply wN
  apply wp_ret
  obtain rfl := Option.some.inj hg
  refine fin1 (fn := Try.f51) s rfl (r_tmp s rfl) ?_
  exact rfl
 have hs3e := decide_eq_false hs3
 replace hg := br_f hg hs3
 apply wL
 refine qq s rfl (y_boxField (o' := 1) s rfl underlying40 rfl rfl rfl) fun a s => ?_
 refine qq s rfl (y_loadBox1 (kk := 1000) s rfl rfl rfl underlying27 rfl) fun a s => ?_
 refine qq s rfl (y_lenSlice s rfl underlying27) fun a s => ?_
 refine qq s rfl (yl_b (y_gtrN (i := ((x_.Supers).length)) (j := 256) s rfl rfl) hs3e) fun a s => ?_
 refine mv s rfl rfl fun a s => ?_
 refine gy s rfl (y_boxField (o' := 2) s rfl underlying40 rfl rfl rfl) fun a s => ?_
 refine gy s rfl (y_loadBox1 (kk := 1000) s rfl rfl rfl underlying38 rfl) fun a s => ?_
 refine gy s rfl (y_lenSlice s rfl underlying38) fun a s => ?_
 refine gy s rfl (y_gtrN (i := ((x_.Feats).length)) (j := 256) s rfl rfl) fun a s => ?_
 refine qq s rfl (y_pick_f s rfl rfl) fun a s => ?_
 refine asg s rfl rfl fun a s => ?_
 apply wN
 apply wp_ret
 obtain rfl := Option.some.inj hg
 refine fin1 (fn := Try.f51) s rfl (r_tmp s rfl) ?_
 exact rfl
set_option maxHeartbeats 1000000 in
theorem c_poset_long (n : Nat) (M : Bs) (w0 : World) (hM : ∀ b, M b → b < w0.heap.size) (d_ : (List TypeDecl)) (Ap01 : Option Addr) (cp01 : Nat) (hp01 : SlR RTypeDecl M w0 Ap01 (d_).length cp01 (d_)) (r : Bool) (hg : poset_long n d_ = some r) :
    Calls Try.prog 31 [.slice (Ap01) ((d_).length) (cp01)].toArray w0 (Ret noB w0 fun v w => v = .bool (r)) := by
 unfold poset_long at hg
 refine enter M noB func31 rfl rfl hM ?_
 intro a s
 replace s := s.es 101 hp01
 apply wR
 refine asg s rfl rfl fun a s => ?_
 apply wN
 apply wQ
 rcases Decidable.em ((256 : Nat) < ((d_).length)) with hs1 | hs1
 ·have hs1e := decide_eq_true hs1
  replace hg := br_t hg hs1
  have hmx2 := SlR.mx (s.ft 101 rfl)
  apply wL
  refine mv s rfl rfl fun a s => ?_
  refine qq s rfl (y_lenSlice s rfl underlying22) fun a s => ?_
  refine qq s rfl (yl_b (y_gtrN (i := ((d_).length)) (j := 256) s rfl rfl) hs1e) fun a s => ?_
  refine mv s rfl rfl fun a s => ?_
  refine gn s rfl fun a s => ?_
  refine gn s rfl fun a s => ?_
  refine qq s rfl (y_pick_t s rfl rfl) fun a s => ?_
  refine asg s rfl rfl fun a s => ?_
  apply wN
  apply wp_ret
  obtain rfl := Option.some.inj hg
  refine fin1 (fn := Try.f31) s rfl (r_tmp s rfl) ?_
  exact rfl
 have hs1e := decide_eq_false hs1
 replace hg := br_f hg hs1
 obtain ⟨r3, hr3, hg⟩ := bind_some hg
 apply wL
 refine mv s rfl rfl fun a s => ?_
 refine qq s rfl (y_lenSlice s rfl underlying22) fun a s => ?_
 refine qq s rfl (yl_b (y_gtrN (i := ((d_).length)) (j := 256) s rfl rfl) hs1e) fun a s => ?_
 refine mv s rfl rfl fun a s => ?_
 refine gm s rfl rfl fun a s => ?_
 refine gl s rfl (l_call (cap := []) s rfl func50 rfl (by kernel_rfl) rfl rfl (c_slices_ContainsFunc_TypeDecl n _ _ s.lt _ _ _ (s.ft 101 rfl) _ _ _ ⟨⟨_, _, func51, rfl, by kernel_rfl⟩, fun M1 w1 hk hm hlt vs x r hp hr => by obtain ⟨Aa2, ca2, Aa3, ca3, rfl, la1, ha2, ha3⟩ := hp; exact c_poset_long_1 n M1 w1 hlt (x) Aa2 ca2 Aa3 ca3 la1 ha2 ha3 r hr⟩ _ hr3) fun v6 a w hK hp s => ?_)
 obtain rfl := hp
 refine qq s rfl (y_pick_f s rfl rfl) fun a s => ?_
 refine asg s rfl rfl fun a s => ?_
 apply wN
 apply wp_ret
 obtain rfl := Option.some.inj hg
 refine fin1 (fn := Try.f31) s rfl (r_tmp s rfl) ?_
 exact rfl
set_option maxHeartbeats 1000000 in
theorem c_text_digit (n : Nat) (M : Bs) (w0 : World) (hM : ∀ b, M b → b < w0.heap.size) (c_ : Int) (r : Bool) (hg : text_digit n c_ = some r) :
    Calls Try.prog 67 [.int .i32 (c_)].toArray w0 (Ret noB w0 fun v w => v = .bool (r)) := by
 unfold text_digit at hg
 refine enter M noB func67 rfl rfl hM ?_
 intro a s
 apply wR
 refine asg s rfl rfl fun a s => ?_
 apply wN
 apply wQ
 rcases Decidable.em ((48 : Int) ≤ c_) with hs1 | hs1
 ·have hs1e := decide_eq_true hs1
  replace hg := br_t hg hs1
  apply wL
  refine mv s rfl rfl fun a s => ?_
  refine qq s rfl (yl_b (y_geq s rfl rfl) hs1e) fun a s => ?_
  refine mv s rfl rfl fun a s => ?_
  refine gm s rfl rfl fun a s => ?_
  refine gy s rfl (y_leq s rfl rfl) fun a s => ?_
  refine qq s rfl (y_pick_t s rfl rfl) fun a s => ?_
  refine asg s rfl rfl fun a s => ?_
  apply wN
  apply wp_ret
  obtain rfl := Option.some.inj hg
  refine fin1 (fn := Try.f67) s rfl (r_tmp s rfl) ?_
  exact rfl
 have hs1e := decide_eq_false hs1
 replace hg := br_f hg hs1
 apply wL
 refine mv s rfl rfl fun a s => ?_
 refine qq s rfl (yl_b (y_geq s rfl rfl) hs1e) fun a s => ?_
 refine mv s rfl rfl fun a s => ?_
 refine gn s rfl fun a s => ?_
 refine gn s rfl fun a s => ?_
 refine qq s rfl (y_pick_f s rfl rfl) fun a s => ?_
 refine asg s rfl rfl fun a s => ?_
 apply wN
 apply wp_ret
 obtain rfl := Option.some.inj hg
 refine fin1 (fn := Try.f67) s rfl (r_tmp s rfl) ?_
 exact rfl
set_option maxHeartbeats 1000000 in
theorem c_text_follows (n : Nat) (M : Bs) (w0 : World) (hM : ∀ b, M b → b < w0.heap.size) (s_ : (List UInt8)) (lp01 : (s_).length ≤ 9223372036854775807) (letter_ : (Int → Option Bool)) (Ap11 : FuncId) (cp11 : List Value) (hp11 : FnR Try.prog Ap11 cp11 pre69 post69 (letter_) M w0) (r : Bool) (hg : text_follows n s_ letter_ = some r) :
    Calls Try.prog 62 [.string (bs (s_)), .func (.func Ap11) #[] (List.toArray cp11)].toArray w0 (Ret noB w0 fun v w => v = .bool (r)) := by
 unfold text_follows at hg
 refine enter M noB func62 rfl rfl hM ?_
 intro a s
 replace s := s.add 101 (fnF Try.prog Ap11 cp11 pre69 post69 (letter_)) (by exact Fact.change _ enterM hp11)
 apply wR
 refine asg s rfl rfl fun a s => ?_
 apply wN
 apply wQ
 apply wQ
 obtain ⟨k1, hg, hk1⟩ := jn_some hg
 refine c_post (fun a w => ∃ (t_2 : Bool), k1 t_2 = some r ∧ St (⟨Try.f62.ntmps, M, noB, w0⟩ : Ctx) [(0, vT s_), (1, .func (.func Ap11) #[] (List.toArray cp11)), (14, .bool (t_2))] [] [(101, fnF Try.prog Ap11 cp11 pre69 post69 (letter_))] a w) ?_ ?_
 ·rcases Decidable.em (((s_).length) = 0) with hs3 | hs3
  ·have hs3e := decide_eq_true hs3
   replace hg := br_t hg hs3
   apply wL
   refine mv s rfl rfl fun a s => ?_
   refine qq s rfl (y_lenStrN s rfl underlying9) fun a s => ?_
   refine qq s rfl (yl_b (y_eqlN (i := ((s_).length)) (j := 0) s rfl rfl) hs3e) fun a s => ?_
   refine mv s rfl rfl fun a s => ?_
   refine gn s rfl fun a s => ?_
   refine gn s rfl fun a s => ?_
   refine gn s rfl fun a s => ?_
   refine qq s rfl (y_pick_t s rfl rfl) fun a s => ?_
   apply wN
   exact ⟨(true), hg, (s.sb rfl rfl rfl)⟩
  have hs3e := decide_eq_false hs3
  replace hg := br_f hg hs3
  apply wL
  refine mv s rfl rfl fun a s => ?_
  refine qq s rfl (y_lenStrN s rfl underlying9) fun a s => ?_
  refine qq s rfl (yl_b (y_eqlN (i := ((s_).length)) (j := 0) s rfl rfl) hs3e) fun a s => ?_
  refine mv s rfl rfl fun a s => ?_
  refine gm s rfl rfl fun a s => ?_
  refine gy s rfl (y_lenStrN s rfl underlying9) fun a s => ?_
  refine gy s rfl (y_gtrN (i := ((s_).length)) (j := 32) s rfl rfl) fun a s => ?_
  refine qq s rfl (y_pick_f s rfl rfl) fun a s => ?_
  apply wN
  exact ⟨(decide ((32 : Nat) < ((s_).length))), hg, (s.sb rfl rfl rfl)⟩
 clear s a; rintro a w ⟨t_2, hg, s⟩
 subst hk1
 refine c_cond s rfl (fun hc4 => ?_) (fun hc4 => ?_)
 ·replace hg := br_t hg hc4
  apply wR
  refine asg s rfl rfl fun a s => ?_
  apply wN
  apply wp_ret
  refine p_thenR ?_
  obtain rfl := Option.some.inj hg
  refine fin1 (fn := Try.f62) s rfl (r_tmp s rfl) ?_
  exact rfl
 replace hg := br_n hg hc4
 apply wp_skip
 apply pN
 apply wQ
 apply wR
 refine mv s rfl rfl fun a s => ?_
 refine l_seq rfl (l_range s 1301 rfl underlying9 rfl rfl fun b6 a w hb hK s => ?_)
 apply wN
 apply wp_block
 refine c_loop (σ := Nat) (fun m1 a w => ∃ (pos_7 : Nat), text_follows_L0 n s_ letter_ m1 pos_7 = some r ∧ St (⟨Try.f62.ntmps, M, noB, w0⟩ : Ctx) [(1, .func (.func Ap11) #[] (List.toArray cp11)), (16, vP b6 0)] [(1301, Ob.iter b6 (bs (s_)) (pos_7))] [(101, fnF Try.prog Ap11 cp11 pre69 post69 (letter_))] a w) (fun m1 => m1) n ⟨(0), hg, (s.sb rfl rfl rfl)⟩ ?_
 clear s a; rintro m1 a w ⟨pos_7, hg, s⟩
 rcases m1 with _ | m1
 ·rw [text_follows_L0] at hg; cases hg
 rw [text_follows_L0] at hg
 apply wQ
 rcases Decidable.em (pos_7 < (s_).length) with hs8 | hs8
 ·have hs8e := decide_eq_true hs8
  replace hg := br_t hg hs8
  have hmx9 : (s_).length ≤ 9223372036854775807 := (by omega)
  apply wL
  refine l_seq rfl (l_next s 1301 rfl rfl hs8 rfl fun a w hK s => ?_)
  refine qq s rfl (y_extract s rfl rfl) fun a s => ?_
  apply wN
  apply wQ
  refine c_t s rfl ?_
  apply wp_skip
  apply pN
  apply wp_block
  apply wR
  refine qq s rfl (y_extract s rfl rfl) fun a s => ?_
  refine qq s rfl (y_extract s rfl rfl) fun a s => ?_
  refine asg s rfl rfl fun a s => ?_
  refine asg s rfl rfl fun a s => ?_
  apply wN
  apply wQ
  obtain ⟨k10, hg, hk10⟩ := jn_some hg
  refine c_post (fun a w => ∃ (t_11 : Bool), k10 t_11 = some r ∧ St (⟨Try.f62.ntmps, M, noB, w0⟩ : Ctx) [(1, .func (.func Ap11) #[] (List.toArray cp11)), (16, vP b6 0), (37, .bool (t_11))] [(1301, Ob.iter b6 (bs (s_)) (pos_7 + runeLen s_ pos_7))] [(101, fnF Try.prog Ap11 cp11 pre69 post69 (letter_))] a w) ?_ ?_
  ·obtain ⟨r12, hr12, hg⟩ := bind_some hg
   rcases Bool.eq_false_or_eq_true (!(r12)) with hs15 | hs15
   ·replace hg := br_t hg hs15
    rcases Decidable.em (pos_7 = 0) with hs16 | hs16
    ·have hs16e := decide_eq_true hs16
     replace hg := br_t hg hs16
     apply wL
     refine mv s rfl rfl fun a s => ?_
     refine mv s rfl rfl fun a s => ?_
     refine l_seq rfl (l_callFn (cap := cp11) (x := (runeAt s_ pos_7)) s rfl (s.ft 101 rfl) rfl rfl rfl hr12 fun v17 a w hK hp s => ?_)
     obtain rfl := hp
     refine qq s rfl (yl_b (y_not s rfl) hs15) fun a s => ?_
     refine mv s rfl rfl fun a s => ?_
     refine gm s rfl rfl fun a s => ?_
     refine gy s rfl (yl_b (y_eqlN (i := pos_7) (j := 0) s rfl rfl) hs16e) fun a s => ?_
     refine gm s rfl rfl fun a s => ?_
     refine gn s rfl fun a s => ?_
     refine gn s rfl fun a s => ?_
     refine gn s rfl fun a s => ?_
     refine gn s rfl fun a s => ?_
     refine gn s rfl fun a s => ?_
     refine gn s rfl fun a s => ?_
     refine gn s rfl fun a s => ?_
     refine gy s rfl (y_pick_t s rfl rfl) fun a s => ?_
     refine qq s rfl (y_pick_t s rfl rfl) fun a s => ?_
     apply wN
     exact ⟨(true), hg, (s.sb rfl rfl rfl)⟩
    have hs16e := decide_eq_false hs16
    replace hg := br_f hg hs16
    obtain ⟨r19, hr19, hg⟩ := bind_some hg
    rcases Bool.eq_false_or_eq_true (!(r19)) with hs22 | hs22
    ·replace hg := br_t hg hs22
     apply wL
     refine mv s rfl rfl fun a s => ?_
     refine mv s rfl rfl fun a s => ?_
     refine l_seq rfl (l_callFn (cap := cp11) (x := (runeAt s_ pos_7)) s rfl (s.ft 101 rfl) rfl rfl rfl hr12 fun v23 a w hK hp s => ?_)
     obtain rfl := hp
     refine qq s rfl (yl_b (y_not s rfl) hs15) fun a s => ?_
     refine mv s rfl rfl fun a s => ?_
     refine gm s rfl rfl fun a s => ?_
     refine gy s rfl (yl_b (y_eqlN (i := pos_7) (j := 0) s rfl rfl) hs16e) fun a s => ?_
     refine gm s rfl rfl fun a s => ?_
     refine gm s rfl rfl fun a s => ?_
     refine gl s rfl (l_call (cap := []) s rfl func67 rfl (by kernel_rfl) rfl rfl (c_text_digit n _ _ s.lt _ _ hr19) fun v25 a w hK hp s => ?_)
     obtain rfl := hp
     refine gy s rfl (yl_b (y_not s rfl) hs22) fun a s => ?_
     refine gm s rfl rfl fun a s => ?_
     refine gm s rfl rfl fun a s => ?_
     refine gy s rfl (y_neq s rfl rfl) fun a s => ?_
     refine gy s rfl (y_pick_t s rfl rfl) fun a s => ?_
     refine gy s rfl (y_pick_f s rfl rfl) fun a s => ?_
     refine qq s rfl (y_pick_t s rfl rfl) fun a s => ?_
     apply wN
     exact ⟨(decide ((runeAt s_ pos_7) ≠ 45)), hg, (s.sb rfl rfl rfl)⟩
    replace hg := br_n hg hs22
    apply wL
    refine mv s rfl rfl fun a s => ?_
    refine mv s rfl rfl fun a s => ?_
    refine l_seq rfl (l_callFn (cap := cp11) (x := (runeAt s_ pos_7)) s rfl (s.ft 101 rfl) rfl rfl rfl hr12 fun v27 a w hK hp s => ?_)
    obtain rfl := hp
    refine qq s rfl (yl_b (y_not s rfl) hs15) fun a s => ?_
    refine mv s rfl rfl fun a s => ?_
    refine gm s rfl rfl fun a s => ?_
    refine gy s rfl (yl_b (y_eqlN (i := pos_7) (j := 0) s rfl rfl) hs16e) fun a s => ?_
    refine gm s rfl rfl fun a s => ?_
    refine gm s rfl rfl fun a s => ?_
    refine gl s rfl (l_call (cap := []) s rfl func67 rfl (by kernel_rfl) rfl rfl (c_text_digit n _ _ s.lt _ _ hr19) fun v29 a w hK hp s => ?_)
    obtain rfl := hp
    refine gy s rfl (yl_b (y_not s rfl) hs22) fun a s => ?_
    refine gm s rfl rfl fun a s => ?_
    refine gn s rfl fun a s => ?_
    refine gn s rfl fun a s => ?_
    refine gy s rfl (y_pick_f s rfl rfl) fun a s => ?_
    refine gy s rfl (y_pick_f s rfl rfl) fun a s => ?_
    refine qq s rfl (y_pick_t s rfl rfl) fun a s => ?_
    apply wN
    exact ⟨(false), hg, (s.sb rfl rfl rfl)⟩
   replace hg := br_n hg hs15
   apply wL
   refine mv s rfl rfl fun a s => ?_
   refine mv s rfl rfl fun a s => ?_
   refine l_seq rfl (l_callFn (cap := cp11) (x := (runeAt s_ pos_7)) s rfl (s.ft 101 rfl) rfl rfl rfl hr12 fun v31 a w hK hp s => ?_)
   obtain rfl := hp
   refine qq s rfl (yl_b (y_not s rfl) hs15) fun a s => ?_
   refine mv s rfl rfl fun a s => ?_
   refine gn s rfl fun a s => ?_
   refine gn s rfl fun a s => ?_
   refine gn s rfl fun a s => ?_
   refine gn s rfl fun a s => ?_
   refine gn s rfl fun a s => ?_
   refine gn s rfl fun a s => ?_
   refine gn s rfl fun a s => ?_
   refine gn s rfl fun a s => ?_
   refine gn s rfl fun a s => ?_
   refine gn s rfl fun a s => ?_
   refine gn s rfl fun a s => ?_
   refine qq s rfl (y_pick_f s rfl rfl) fun a s => ?_
   apply wN
   exact ⟨(false), hg, (s.sb rfl rfl rfl)⟩
  clear s a; rintro a w ⟨t_11, hg, s⟩
  subst hk10
  refine c_cond s rfl (fun hc33 => ?_) (fun hc33 => ?_)
  ·replace hg := br_t hg hc33
   apply wR
   refine asg s rfl rfl fun a s => ?_
   apply wN
   apply wp_ret
   refine p_inR ?_
   refine p_thenR ?_
   refine p_inR ?_
   refine p_thenR ?_
   obtain rfl := Option.some.inj hg
   refine fin1 (fn := Try.f62) s rfl (r_tmp s rfl) ?_
   exact rfl
  replace hg := br_n hg hc33
  apply wp_skip
  refine p_inN ?_
  apply pN
  exact ⟨m1, Nat.lt_succ_self _, ⟨(pos_7 + runeLen s_ pos_7), hg, (s.sb rfl rfl rfl)⟩⟩
 have hs8e := decide_eq_false hs8
 replace hg := br_f hg hs8
 apply wL
 refine l_seq rfl (l_nextE s 1301 rfl rfl hs8 rfl fun a w hK s => ?_)
 refine qq s rfl (y_extract s rfl rfl) fun a s => ?_
 apply wN
 apply wQ
 refine c_f s rfl ?_
 apply wp_exit
 refine p_then ?_
 refine p_then ?_
 refine p_in ?_
 apply pN
 apply wR
 refine asg s rfl rfl fun a s => ?_
 apply wN
 apply wp_ret
 obtain rfl := Option.some.inj hg
 refine fin1 (fn := Try.f62) s rfl (r_tmp s rfl) ?_
 exact rfl
set_option maxHeartbeats 1000000 in
theorem c_text_lower (n : Nat) (M : Bs) (w0 : World) (hM : ∀ b, M b → b < w0.heap.size) (c_ : Int) (r : Bool) (hg : text_lower n c_ = some r) :
    Calls Try.prog 63 [.int .i32 (c_)].toArray w0 (Ret noB w0 fun v w => v = .bool (r)) := by
 unfold text_lower at hg
 refine enter M noB func63 rfl rfl hM ?_
 intro a s
 apply wR
 refine asg s rfl rfl fun a s => ?_
 apply wN
 apply wQ
 rcases Decidable.em ((97 : Int) ≤ c_) with hs1 | hs1
 ·have hs1e := decide_eq_true hs1
  replace hg := br_t hg hs1
  apply wL
  refine mv s rfl rfl fun a s => ?_
  refine qq s rfl (yl_b (y_geq s rfl rfl) hs1e) fun a s => ?_
  refine mv s rfl rfl fun a s => ?_
  refine gm s rfl rfl fun a s => ?_
  refine gy s rfl (y_leq s rfl rfl) fun a s => ?_
  refine qq s rfl (y_pick_t s rfl rfl) fun a s => ?_
  refine asg s rfl rfl fun a s => ?_
  apply wN
  apply wp_ret
  obtain rfl := Option.some.inj hg
  refine fin1 (fn := Try.f63) s rfl (r_tmp s rfl) ?_
  exact rfl
 have hs1e := decide_eq_false hs1
 replace hg := br_f hg hs1
 apply wL
 refine mv s rfl rfl fun a s => ?_
 refine qq s rfl (yl_b (y_geq s rfl rfl) hs1e) fun a s => ?_
 refine mv s rfl rfl fun a s => ?_
 refine gn s rfl fun a s => ?_
 refine gn s rfl fun a s => ?_
 refine qq s rfl (y_pick_f s rfl rfl) fun a s => ?_
 refine asg s rfl rfl fun a s => ?_
 apply wN
 apply wp_ret
 obtain rfl := Option.some.inj hg
 refine fin1 (fn := Try.f63) s rfl (r_tmp s rfl) ?_
 exact rfl
set_option maxHeartbeats 1000000 in
theorem c_text_Name (n : Nat) (M : Bs) (w0 : World) (hM : ∀ b, M b → b < w0.heap.size) (s_ : (List UInt8)) (lp01 : (s_).length ≤ 9223372036854775807) (r : Bool) (hg : text_Name n s_ = some r) :
    Calls Try.prog 52 [.string (bs (s_))].toArray w0 (Ret noB w0 fun v w => v = .bool (r)) := by
 unfold text_Name at hg
 refine enter M noB func52 rfl rfl hM ?_
 intro a s
 apply wR
 refine asg s rfl rfl fun a s => ?_
 apply wN
 apply wQ
 obtain ⟨r1, hr1, hg⟩ := bind_some hg
 apply wL
 refine mv s rfl rfl fun a s => ?_
 refine lc s rfl func62 (by kernel_rfl) (c_text_follows n _ _ s.lt _ (by omega) _ _ _ ⟨⟨_, _, func63, rfl, by kernel_rfl⟩, fun M1 w1 hk hm hlt vs x r hp hr => by obtain rfl := hp; exact c_text_lower n M1 w1 hlt (x) r hr⟩ _ hr1) fun v4 a w hK hp s => ?_
 obtain rfl := hp
 refine asg s rfl rfl fun a s => ?_
 apply wN
 apply wp_ret
 obtain rfl := Option.some.inj hg
 refine fin1 (fn := Try.f52) s rfl (r_tmp s rfl) ?_
 exact rfl
set_option maxHeartbeats 1000000 in
theorem c_poset_names (n : Nat) (M : Bs) (w0 : World) (hM : ∀ b, M b → b < w0.heap.size) (d_ : (List TypeDecl)) (Ap01 : Option Addr) (cp01 : Nat) (hp01 : SlR RTypeDecl M w0 Ap01 (d_).length cp01 (d_)) (r : Int) (hg : poset_names n d_ = some r) :
    Calls Try.prog 32 [.slice (Ap01) ((d_).length) (cp01)].toArray w0 (Ret noB w0 fun v w => v = .int .i64 (r)) := by
 unfold poset_names at hg
 refine enter M noB func32 rfl rfl hM ?_
 intro a s
 replace s := s.es 101 hp01
 apply wR
 refine asg s rfl rfl fun a s => ?_
 apply wN
 apply wR
 refine mv s rfl rfl fun a s => ?_
 refine qq s rfl (y_lenSlice s rfl underlying22) fun a s => ?_
 refine l_seq rfl (l_makeMap (n := (((d_).length : Nat) : Int)) s 1102 underlying55 (.inr rfl) rfl rfl fun b2 a w hb hK s => ?_)
 replace s := s.add 103 (kvF Rep.bool ([]) ([])) (KvRel.nil)
 refine asg s rfl rfl fun a s => ?_
 apply wN
 apply wQ
 apply wR
 refine mv s rfl rfl fun a s => ?_
 refine qq s rfl (y_lenSlice s rfl underlying22) fun a s => ?_
 refine mv s rfl rfl fun a s => ?_
 apply wN
 apply wp_block
 replace s := s.al 104 103 rfl
 refine c_loop (σ := Nat) (fun m1 a w => ∃ (seen_3 : (List (List UInt8 × Bool))) (t_5 : Nat) (kv4 : List (List UInt8 × Value)), poset_names_L0 n d_ m1 seen_3 t_5 = some r ∧ St (⟨Try.f32.ntmps, M, noB, w0⟩ : Ctx) [(3, .map (some b2)), (9, sl Ap01 d_ cp01), (10, vI ((((d_).length : Nat) : Int))), (11, vI (((t_5 : Nat) : Int)))] [(1102, Ob.smap b2 (kv4))] [(101, sF RTypeDecl Ap01 cp01 d_), (104, kvF Rep.bool (kv4) (seen_3))] a w) (fun m1 => m1) n ⟨([]), (0), ([]), hg, (s.sb rfl rfl rfl)⟩ ?_
 clear s a; rintro m1 a w ⟨seen_3, t_5, kv4, hg, s⟩
 rcases m1 with _ | m1
 ·rw [poset_names_L0] at hg; cases hg
 rw [poset_names_L0] at hg
 apply wR
 refine qq s rfl (y_lssN (i := t_5) (j := ((d_).length)) s rfl rfl) fun a s => ?_
 apply wN
 apply wQ
 refine c_dec s rfl (fun hc6 => ?_) (fun hc6 => ?_)
 ·replace hg := br_t hg hc6
  have hmx7 := SlR.mx (s.ft 101 rfl)
  apply wp_skip
  apply pN
  apply wQ
  apply wp_block
  apply wQ
  obtain ⟨x9, hx9, hg⟩ := bind_some hg
  apply wL
  obtain ⟨p12, hep12, hpp12⟩ := SlR.elemX (s.ft 101 rfl) hx9
  refine qq s rfl (y_elem (sz := 3) (i := t_5) s rfl rfl underlying22 rfl hep12 rfl (lt_of_get hx9)) fun a s => ?_
  obtain ⟨hlq13, hmq13, csq13, hdq13, hcq13⟩ := hpp12
  obtain ⟨Aq132, cq132, Aq133, cq133, rfl, lq131, hq132, hq133⟩ := RTypeDecl.open hdq13
  replace s := s.ns 107 hq132
  replace s := s.ns 108 hq133
  refine qq s rfl (y_ldp s rfl hlq13 hmq13 (by simpa using hcq13) underlying40 rfl rfl) fun a s => ?_
  refine l_seq rfl (l_alloc (zs := [vT ([]), .slice none 0 0, .slice none 0 0]) s 1402 rfl rfl rfl rfl fun b14 a w hb hK s => ?_)
  refine l_seq rfl (l_store (n := 3) (cs' := [vT x9.Name, sl Aq132 x9.Supers cq132, sl Aq133 x9.Feats cq133]) s 1402 rfl rfl rfl rfl rfl rfl rfl rfl ?_); clear s; intro w hK s; clear hK
  apply wN
  apply wQ
  apply wQ
  obtain ⟨r15, hr15, hg⟩ := bind_some hg
  apply wL
  refine qq s rfl (y_boxField (o' := 0) s rfl underlying40 rfl rfl rfl) fun a s => ?_
  refine qq s rfl (y_loadBox1 (kk := 1402) s rfl rfl rfl underlying9 rfl) fun a s => ?_
  refine lc s rfl func52 (by kernel_rfl) (c_text_Name n _ _ s.lt _ (by omega) _ hr15) fun v18 a w hK hp s => ?_
  obtain rfl := hp
  refine qq s rfl (y_not s rfl) fun a s => ?_
  apply wN
  refine c_cond s rfl (fun hc20 => ?_) (fun hc20 => ?_)
  ·replace hg := br_t hg hc20
   apply wR
   refine asg s rfl rfl fun a s => ?_
   apply wN
   apply wp_ret
   refine p_thenR ?_
   refine p_inR ?_
   refine p_thenR ?_
   refine p_thenR ?_
   refine p_inR ?_
   refine p_thenR ?_
   obtain rfl := Option.some.inj hg
   refine fin1 (fn := Try.f32) s rfl (r_tmp s rfl) ?_
   exact rfl
  replace hg := br_n hg hc20
  apply wp_skip
  apply pN
  apply wQ
  apply wR
  refine mv s rfl rfl fun a s => ?_
  refine qq s rfl (y_boxField (o' := 0) s rfl underlying40 rfl rfl rfl) fun a s => ?_
  refine qq s rfl (y_loadBox1 (kk := 1402) s rfl rfl rfl underlying9 rfl) fun a s => ?_
  have hm22 := kvF_getD (R := Rep.bool) (k := x9.Name) (z := .bool (false)) (zx := false) (s.ft 104 rfl) (by exact rfl)
  have em22 := hm22
  refine qq s rfl (y_lookupV (kk := 1102) s rfl rfl rfl underlying55 underlying9 rfl em22) fun a s => ?_
  apply wN
  refine c_cond s rfl (fun hc23 => ?_) (fun hc23 => ?_)
  ·replace hg := br_t hg hc23
   apply wR
   refine asg s rfl rfl fun a s => ?_
   apply wN
   apply wp_ret
   refine p_thenR ?_
   refine p_inR ?_
   refine p_thenR ?_
   refine p_thenR ?_
   refine p_inR ?_
   refine p_thenR ?_
   obtain rfl := Option.some.inj hg
   refine fin1 (fn := Try.f32) s rfl (r_tmp s rfl) ?_
   exact rfl
  replace hg := br_n hg hc23
  apply wp_skip
  apply pN
  apply wL
  refine mv s rfl rfl fun a s => ?_
  refine qq s rfl (y_boxField (o' := 0) s rfl underlying40 rfl rfl rfl) fun a s => ?_
  refine qq s rfl (y_loadBox1 (kk := 1402) s rfl rfl rfl underlying9 rfl) fun a s => ?_
  refine l_seq rfl (l_mapUpdate s 1102 rfl rfl rfl rfl underlying55 underlying9 fun w hK s => ?_)
  replace s := s.add 110 (kvF Rep.bool (mset (kv4) (x9.Name) (.bool (true))) (mset (seen_3) (x9.Name) (true))) (kvF_set (s.ft 104 rfl) (by exact rfl))
  apply wO
  refine p_inN ?_
  apply pN
  apply wL
  refine qq s rfl (y_addN (i := t_5) (j := 1) s rfl rfl (in64.2 (by omega))) fun a s => ?_
  refine mv s rfl rfl fun a s => ?_
  apply wN
  replace s := s.al 104 110 rfl
  exact ⟨m1, Nat.lt_succ_self _, ⟨(mset (seen_3) (x9.Name) (true)), (t_5 + 1), (mset (kv4) (x9.Name) (.bool (true))), hg, (s.sb rfl rfl rfl)⟩⟩
 replace hg := br_f hg hc6
 apply wp_exit
 refine p_then ?_
 refine p_then ?_
 refine p_in ?_
 apply pN
 apply wR
 refine asg s rfl rfl fun a s => ?_
 apply wN
 apply wp_ret
 obtain rfl := Option.some.inj hg
 refine fin1 (fn := Try.f32) s rfl (r_tmp s rfl) ?_
 exact rfl
set_option maxHeartbeats 1000000 in
theorem c_poset_supers (n : Nat) (M : Bs) (w0 : World) (hM : ∀ b, M b → b < w0.heap.size) (d_ : (List TypeDecl)) (Ap01 : Option Addr) (cp01 : Nat) (hp01 : SlR RTypeDecl M w0 Ap01 (d_).length cp01 (d_)) (r : (List (List UInt8 × (List (List UInt8))))) (hg : poset_supers n d_ = some r) :
    Calls Try.prog 41 [.slice (Ap01) ((d_).length) (cp01)].toArray w0 (Ret noB w0 fun v w => ∃ (ba1 : Nat), v = .map (some ba1) ∧ (MapR (Rep.list Rep.str) M w ba1 (r))) := by
 unfold poset_supers at hg
 refine enter M noB func41 rfl rfl hM ?_
 intro a s
 replace s := s.es 101 hp01
 apply wR
 refine asg s rfl rfl fun a s => ?_
 apply wN
 apply wR
 refine mv s rfl rfl fun a s => ?_
 refine qq s rfl (y_lenSlice s rfl underlying22) fun a s => ?_
 refine l_seq rfl (l_makeMap (n := (((d_).length : Nat) : Int)) s 1102 underlying49 (.inr rfl) rfl rfl fun b2 a w hb hK s => ?_)
 replace s := s.add 103 (kvF (Rep.list Rep.str) ([]) ([])) (KvRel.nil)
 refine asg s rfl rfl fun a s => ?_
 apply wN
 apply wQ
 apply wR
 refine mv s rfl rfl fun a s => ?_
 refine qq s rfl (y_lenSlice s rfl underlying22) fun a s => ?_
 refine mv s rfl rfl fun a s => ?_
 apply wN
 apply wp_block
 replace s := s.al 104 103 rfl
 refine c_loop (σ := Nat) (fun m1 a w => ∃ (out_3 : (List (List UInt8 × (List (List UInt8))))), ∃ (t_5 : Nat) (kv4 : List (List UInt8 × Value)), poset_supers_L0 n d_ m1 out_3 t_5 = some r ∧ St (⟨Try.f41.ntmps, M, noB, w0⟩ : Ctx) [(3, .map (some b2)), (9, sl Ap01 d_ cp01), (10, vI ((((d_).length : Nat) : Int))), (11, vI (((t_5 : Nat) : Int)))] [(1102, Ob.smap b2 (kv4))] [(101, sF RTypeDecl Ap01 cp01 d_), (104, kvF (Rep.list Rep.str) (kv4) (out_3))] a w) (fun m1 => m1) n ⟨([]), (0), ([]), hg, (s.sb rfl rfl rfl)⟩ ?_
 clear s a; rintro m1 a w ⟨out_3, t_5, kv4, hg, s⟩
 rcases m1 with _ | m1
 ·rw [poset_supers_L0] at hg; cases hg
 rw [poset_supers_L0] at hg
 apply wR
 refine qq s rfl (y_lssN (i := t_5) (j := ((d_).length)) s rfl rfl) fun a s => ?_
 apply wN
 apply wQ
 refine c_dec s rfl (fun hc6 => ?_) (fun hc6 => ?_)
 ·replace hg := br_t hg hc6
  have hmx7 := SlR.mx (s.ft 101 rfl)
  apply wp_skip
  apply pN
  apply wQ
  apply wp_block
  apply wQ
  obtain ⟨x9, hx9, hg⟩ := bind_some hg
  apply wL
  obtain ⟨p12, hep12, hpp12⟩ := SlR.elemX (s.ft 101 rfl) hx9
  refine qq s rfl (y_elem (sz := 3) (i := t_5) s rfl rfl underlying22 rfl hep12 rfl (lt_of_get hx9)) fun a s => ?_
  obtain ⟨hlq13, hmq13, csq13, hdq13, hcq13⟩ := hpp12
  obtain ⟨Aq132, cq132, Aq133, cq133, rfl, lq131, hq132, hq133⟩ := RTypeDecl.open hdq13
  replace s := s.ns 107 hq132
  replace s := s.ns 108 hq133
  refine qq s rfl (y_ldp s rfl hlq13 hmq13 (by simpa using hcq13) underlying40 rfl rfl) fun a s => ?_
  refine l_seq rfl (l_alloc (zs := [vT ([]), .slice none 0 0, .slice none 0 0]) s 1402 rfl rfl rfl rfl fun b14 a w hb hK s => ?_)
  refine l_seq rfl (l_store (n := 3) (cs' := [vT x9.Name, sl Aq132 x9.Supers cq132, sl Aq133 x9.Feats cq133]) s 1402 rfl rfl rfl rfl rfl rfl rfl rfl ?_); clear s; intro w hK s; clear hK
  apply wN
  apply wL
  refine mv s rfl rfl fun a s => ?_
  refine qq s rfl (y_boxField (o' := 0) s rfl underlying40 rfl rfl rfl) fun a s => ?_
  refine qq s rfl (y_loadBox1 (kk := 1402) s rfl rfl rfl underlying9 rfl) fun a s => ?_
  refine qq s rfl (y_boxField (o' := 1) s rfl underlying40 rfl rfl rfl) fun a s => ?_
  refine qq s rfl (y_loadBox1 (kk := 1402) s rfl rfl rfl underlying27 rfl) fun a s => ?_
  refine l_seq rfl (l_mapUpdate s 1102 rfl rfl rfl rfl underlying49 underlying9 fun w hK s => ?_)
  replace s := s.add 110 (kvF (Rep.list Rep.str) (mset (kv4) (x9.Name) (sl Aq132 x9.Supers cq132)) (mset (out_3) (x9.Name) (x9.Supers))) (kvF_set (s.ft 104 rfl) (by exact ⟨_, _, _, rfl, (s.ft 107 rfl)⟩))
  apply wO
  refine p_inN ?_
  apply pN
  apply wL
  refine qq s rfl (y_addN (i := t_5) (j := 1) s rfl rfl (in64.2 (by omega))) fun a s => ?_
  refine mv s rfl rfl fun a s => ?_
  apply wN
  replace s := s.al 104 110 rfl
  exact ⟨m1, Nat.lt_succ_self _, ⟨(mset (out_3) (x9.Name) (x9.Supers)), (t_5 + 1), (mset (kv4) (x9.Name) (sl Aq132 x9.Supers cq132)), hg, (s.sb rfl rfl rfl)⟩⟩
 replace hg := br_f hg hc6
 apply wp_exit
 refine p_then ?_
 refine p_then ?_
 refine p_in ?_
 apply pN
 apply wR
 refine mv s rfl rfl fun a s => ?_
 refine asg s rfl rfl fun a s => ?_
 apply wN
 apply wp_ret
 replace s := s.freezeMapR (R := (Rep.list Rep.str)) (L' := []) 111 1102 rfl (s.ft 104 rfl) trivial rfl
 obtain rfl := Option.some.inj hg
 refine fin1 (fn := Try.f41) s rfl (r_tmp s rfl) ?_
 exact ⟨b2, rfl, (s.out (k := 111) rfl)⟩
set_option maxHeartbeats 1000000 in
theorem c_slices_Index_string (n : Nat) (M : Bs) (w0 : World) (hM : ∀ b, M b → b < w0.heap.size) (s_ : (List (List UInt8))) (Ap01 : Option Addr) (cp01 : Nat) (hp01 : SlR Rep.str M w0 Ap01 (s_).length cp01 (s_)) (v_ : (List UInt8)) (lp11 : (v_).length ≤ 9223372036854775807) (r : Int) (hg : slices_Index_string n s_ v_ = some r) :
    Calls Try.prog 59 [.slice (Ap01) ((s_).length) (cp01), .string (bs (v_))].toArray w0 (Ret noB w0 fun v w => v = .int .i64 (r)) := by
 unfold slices_Index_string at hg
 refine enter M noB func59 rfl rfl hM ?_
 intro a s
 replace s := s.es 101 hp01
 apply wR
 refine asg s rfl rfl fun a s => ?_
 apply wN
 apply wQ
 apply wR
 refine mv s rfl rfl fun a s => ?_
 refine qq s rfl (y_lenSlice s rfl underlying27) fun a s => ?_
 refine mv s rfl rfl fun a s => ?_
 apply wN
 apply wp_block
 refine c_loop (σ := Nat) (fun m1 a w => ∃ (t_1 : Nat), slices_Index_string_L0 n s_ v_ m1 t_1 = some r ∧ St (⟨Try.f59.ntmps, M, noB, w0⟩ : Ctx) [(0, sl Ap01 s_ cp01), (1, vT v_), (7, vI ((((s_).length : Nat) : Int))), (8, vI (((t_1 : Nat) : Int)))] [] [(101, sF Rep.str Ap01 cp01 s_)] a w) (fun m1 => m1) n ⟨(0), hg, (s.sb rfl rfl rfl)⟩ ?_
 clear s a; rintro m1 a w ⟨t_1, hg, s⟩
 rcases m1 with _ | m1
 ·rw [slices_Index_string_L0] at hg; cases hg
 rw [slices_Index_string_L0] at hg
 apply wR
 refine qq s rfl (y_lssN (i := t_1) (j := ((s_).length)) s rfl rfl) fun a s => ?_
 apply wN
 apply wQ
 refine c_dec s rfl (fun hc2 => ?_) (fun hc2 => ?_)
 ·replace hg := br_t hg hc2
  have hmx3 := SlR.mx (s.ft 101 rfl)
  apply wp_skip
  apply pN
  apply wQ
  apply wp_block
  apply wR
  refine mv s rfl rfl fun a s => ?_
  refine asg s rfl rfl fun a s => ?_
  apply wN
  apply wQ
  obtain ⟨x5, hx5, hg⟩ := bind_some hg
  apply wL
  refine mv s rfl rfl fun a s => ?_
  refine mv s rfl rfl fun a s => ?_
  refine mv s rfl rfl fun a s => ?_
  obtain ⟨p7, hep7, hpp7⟩ := SlR.elemX (s.ft 101 rfl) hx5
  refine qq s rfl (y_elem (sz := 1) (i := t_1) s rfl rfl underlying27 rfl hep7 rfl (lt_of_get hx5)) fun a s => ?_
  obtain ⟨hlq8, hmq8, csq8, hdq8, hcq8⟩ := hpp7
  obtain ⟨rfl, lq81⟩ := hdq8
  refine qq s rfl (y_ldp1 s rfl hlq8 hmq8 (hcq8 0 _ rfl) underlying9 rfl) fun a s => ?_
  refine qq s rfl (y_seq s rfl rfl) fun a s => ?_
  apply wN
  refine c_dec s rfl (fun hc9 => ?_) (fun hc9 => ?_)
  ·replace hg := br_t hg hc9
   apply wR
   refine mv s rfl rfl fun a s => ?_
   refine asg s rfl rfl fun a s => ?_
   apply wN
   apply wp_ret
   refine p_inR ?_
   refine p_thenR ?_
   refine p_thenR ?_
   refine p_inR ?_
   refine p_thenR ?_
   obtain rfl := Option.some.inj hg
   refine fin1 (fn := Try.f59) s rfl (r_tmp s rfl) ?_
   exact rfl
  replace hg := br_f hg hc9
  apply wp_skip
  refine p_inN ?_
  apply pN
  apply wL
  refine qq s rfl (y_addN (i := t_1) (j := 1) s rfl rfl (in64.2 (by omega))) fun a s => ?_
  refine mv s rfl rfl fun a s => ?_
  apply wN
  exact ⟨m1, Nat.lt_succ_self _, ⟨(t_1 + 1), hg, (s.sb rfl rfl rfl)⟩⟩
 replace hg := br_f hg hc2
 apply wp_exit
 refine p_then ?_
 refine p_then ?_
 refine p_in ?_
 apply pN
 apply wR
 refine asg s rfl rfl fun a s => ?_
 apply wN
 apply wp_ret
 obtain rfl := Option.some.inj hg
 refine fin1 (fn := Try.f59) s rfl (r_tmp s rfl) ?_
 exact rfl
set_option maxHeartbeats 1000000 in
theorem c_slices_Contains_string (n : Nat) (M : Bs) (w0 : World) (hM : ∀ b, M b → b < w0.heap.size) (s_ : (List (List UInt8))) (Ap01 : Option Addr) (cp01 : Nat) (hp01 : SlR Rep.str M w0 Ap01 (s_).length cp01 (s_)) (v_ : (List UInt8)) (lp11 : (v_).length ≤ 9223372036854775807) (r : Bool) (hg : slices_Contains_string n s_ v_ = some r) :
    Calls Try.prog 45 [.slice (Ap01) ((s_).length) (cp01), .string (bs (v_))].toArray w0 (Ret noB w0 fun v w => v = .bool (r)) := by
 unfold slices_Contains_string at hg
 refine enter M noB func45 rfl rfl hM ?_
 intro a s
 replace s := s.es 101 hp01
 apply wR
 refine asg s rfl rfl fun a s => ?_
 apply wN
 apply wQ
 obtain ⟨r1, hr1, hg⟩ := bind_some hg
 apply wL
 refine mv s rfl rfl fun a s => ?_
 refine mv s rfl rfl fun a s => ?_
 refine lc s rfl func59 (by kernel_rfl) (c_slices_Index_string n _ _ s.lt _ _ _ (s.ft 101 rfl) _ (by omega) _ hr1) fun v4 a w hK hp s => ?_
 obtain rfl := hp
 refine qq s rfl (y_geq s rfl rfl) fun a s => ?_
 refine asg s rfl rfl fun a s => ?_
 apply wN
 apply wp_ret
 obtain rfl := Option.some.inj hg
 refine fin1 (fn := Try.f45) s rfl (r_tmp s rfl) ?_
 exact rfl
set_option maxHeartbeats 1000000 in
theorem c_poset_links (n : Nat) (M : Bs) (w0 : World) (hM : ∀ b, M b → b < w0.heap.size) (d_ : (List TypeDecl)) (Ap01 : Option Addr) (cp01 : Nat) (hp01 : SlR RTypeDecl M w0 Ap01 (d_).length cp01 (d_)) (r : Int) (hg : poset_links n d_ = some r) :
    Calls Try.prog 33 [.slice (Ap01) ((d_).length) (cp01)].toArray w0 (Ret noB w0 fun v w => v = .int .i64 (r)) := by
 unfold poset_links at hg
 refine enter M noB func33 rfl rfl hM ?_
 intro a s
 replace s := s.es 101 hp01
 apply wR
 refine asg s rfl rfl fun a s => ?_
 apply wN
 apply wQ
 obtain ⟨r1, hr1, hg⟩ := bind_some hg
 apply wL
 refine mv s rfl rfl fun a s => ?_
 refine lc s rfl func41 (by kernel_rfl) (c_poset_supers n _ _ s.lt _ _ _ (s.ft 101 rfl) _ hr1) fun v4 a w hK hp s => ?_
 obtain ⟨bu5a1, rfl, hu5a1⟩ := hp
 replace s := s.add 103 (mapRF (Rep.list Rep.str) bu5a1 (r1)) hu5a1
 refine asg s rfl rfl fun a s => ?_
 apply wN
 apply wQ
 apply wR
 refine mv s rfl rfl fun a s => ?_
 refine qq s rfl (y_lenSlice s rfl underlying22) fun a s => ?_
 refine mv s rfl rfl fun a s => ?_
 apply wN
 apply wp_block
 refine c_loop (σ := Nat) (fun m1 a w => ∃ (t_6 : Nat), poset_links_L0 n d_ r1 m1 t_6 = some r ∧ St (⟨Try.f33.ntmps, M, noB, w0⟩ : Ctx) [(3, .map (some bu5a1)), (12, sl Ap01 d_ cp01), (13, vI ((((d_).length : Nat) : Int))), (14, vI (((t_6 : Nat) : Int)))] [] [(101, sF RTypeDecl Ap01 cp01 d_), (103, mapRF (Rep.list Rep.str) bu5a1 (r1))] a w) (fun m1 => m1) n ⟨(0), hg, (s.sb rfl rfl rfl)⟩ ?_
 clear s a; rintro m1 a w ⟨t_6, hg, s⟩
 rcases m1 with _ | m1
 ·rw [poset_links_L0] at hg; cases hg
 rw [poset_links_L0] at hg
 apply wR
 refine qq s rfl (y_lssN (i := t_6) (j := ((d_).length)) s rfl rfl) fun a s => ?_
 apply wN
 apply wQ
 refine c_dec s rfl (fun hc7 => ?_) (fun hc7 => ?_)
 ·replace hg := br_t hg hc7
  have hmx8 := SlR.mx (s.ft 101 rfl)
  apply wp_skip
  apply pN
  apply wQ
  obtain ⟨k9, hg, hk9⟩ := jn_some hg
  refine c_post (fun a w => k9 = some r ∧ St (⟨Try.f33.ntmps, M, noB, w0⟩ : Ctx) [(3, .map (some bu5a1)), (12, sl Ap01 d_ cp01), (13, vI ((((d_).length : Nat) : Int))), (14, vI (((t_6 : Nat) : Int)))] [] [(101, sF RTypeDecl Ap01 cp01 d_), (103, mapRF (Rep.list Rep.str) bu5a1 (r1))] a w) ?_ ?_
  ·apply wp_block
   apply wQ
   obtain ⟨x11, hx11, hg⟩ := bind_some hg
   apply wL
   obtain ⟨p14, hep14, hpp14⟩ := SlR.elemX (s.ft 101 rfl) hx11
   refine qq s rfl (y_elem (sz := 3) (i := t_6) s rfl rfl underlying22 rfl hep14 rfl (lt_of_get hx11)) fun a s => ?_
   obtain ⟨hlq15, hmq15, csq15, hdq15, hcq15⟩ := hpp14
   obtain ⟨Aq152, cq152, Aq153, cq153, rfl, lq151, hq152, hq153⟩ := RTypeDecl.open hdq15
   replace s := s.ns 106 hq152
   replace s := s.ns 107 hq153
   refine qq s rfl (y_ldp s rfl hlq15 hmq15 (by simpa using hcq15) underlying40 rfl rfl) fun a s => ?_
   refine l_seq rfl (l_alloc (zs := [vT ([]), .slice none 0 0, .slice none 0 0]) s 1402 rfl rfl rfl rfl fun b16 a w hb hK s => ?_)
   refine l_seq rfl (l_store (n := 3) (cs' := [vT x11.Name, sl Aq152 x11.Supers cq152, sl Aq153 x11.Feats cq153]) s 1402 rfl rfl rfl rfl rfl rfl rfl rfl ?_); clear s; intro w hK s; clear hK
   apply wN
   apply wR
   refine qq s rfl (y_boxField (o' := 1) s rfl underlying40 rfl rfl rfl) fun a s => ?_
   refine qq s rfl (y_loadBox1 (kk := 1402) s rfl rfl rfl underlying27 rfl) fun a s => ?_
   refine qq s rfl (y_lenSlice s rfl underlying27) fun a s => ?_
   refine mv s rfl rfl fun a s => ?_
   apply wN
   apply wp_block
   refine c_loop (σ := Nat) (fun m2 a w => ∃ (t_17 : Nat), poset_links_L1 n r1 k9 x11 m2 t_17 = some r ∧ St (⟨Try.f33.ntmps, M, noB, w0⟩ : Ctx) [(3, .map (some bu5a1)), (5, vP b16 0), (12, sl Ap01 d_ cp01), (13, vI ((((d_).length : Nat) : Int))), (14, vI (((t_6 : Nat) : Int))), (19, sl Aq152 x11.Supers cq152), (20, vI ((((x11.Supers).length : Nat) : Int))), (21, vI (((t_17 : Nat) : Int)))] [(1402, Ob.box b16 [vT x11.Name, sl Aq152 x11.Supers cq152, sl Aq153 x11.Feats cq153] 40)] [(101, sF RTypeDecl Ap01 cp01 d_), (103, mapRF (Rep.list Rep.str) bu5a1 (r1)), (106, sF Rep.str Aq152 cq152 x11.Supers), (107, sF RFeatDecl Aq153 cq153 x11.Feats)] a w) (fun m2 => m2) n ⟨(0), hg, (s.sb rfl rfl rfl)⟩ ?_
   clear s a; rintro m2 a w ⟨t_17, hg, s⟩
   rcases m2 with _ | m2
   ·rw [poset_links_L1] at hg; cases hg
   rw [poset_links_L1] at hg
   apply wR
   refine qq s rfl (y_lssN (i := t_17) (j := ((x11.Supers).length)) s rfl rfl) fun a s => ?_
   apply wN
   apply wQ
   refine c_dec s rfl (fun hc18 => ?_) (fun hc18 => ?_)
   ·replace hg := br_t hg hc18
    have hmx19 := SlR.mx (s.ft 106 rfl)
    apply wp_skip
    apply pN
    apply wQ
    apply wp_block
    apply wQ
    obtain ⟨x21, hx21, hg⟩ := bind_some hg
    apply wL
    refine mv s rfl rfl fun a s => ?_
    obtain ⟨p23, hep23, hpp23⟩ := SlR.elemX (s.ft 106 rfl) hx21
    refine qq s rfl (y_elem (sz := 1) (i := t_17) s rfl rfl underlying27 rfl hep23 rfl (lt_of_get hx21)) fun a s => ?_
    obtain ⟨hlq24, hmq24, csq24, hdq24, hcq24⟩ := hpp23
    obtain ⟨rfl, lq241⟩ := hdq24
    refine qq s rfl (y_ldp1 s rfl hlq24 hmq24 (hcq24 0 _ rfl) underlying9 rfl) fun a s => ?_
    refine asg s rfl rfl fun a s => ?_
    refine asg s rfl rfl fun a s => ?_
    apply wN
    apply wQ
    apply wR
    refine mv s rfl rfl fun a s => ?_
    refine mv s rfl rfl fun a s => ?_
    obtain ⟨kvm26, hmm26, hfm26⟩ := mapRF_open (s.ft 103 rfl)
    have hm26 := kvF_getD (R := (Rep.list Rep.str)) (k := x21) (z := .slice none 0 0) (zx := []) hfm26 (by exact ⟨_, _, _, rfl, (SlR.nil_ _ _ _)⟩)
    obtain ⟨Am261, nnm26, cm261, em26, hm261⟩ := hm26
    obtain rfl := hm261.len
    replace s := s.ns 109 hm261
    refine qq s rfl (y_lookupOkFV s rfl rfl hmm26 underlying49 underlying9 rfl em26 (kvF_isSome hfm26)) fun a s => ?_
    refine mv s rfl rfl fun a s => ?_
    refine qq s rfl (y_extract s rfl rfl) fun a s => ?_
    refine qq s rfl (y_extract s rfl rfl) fun a s => ?_
    refine asg s rfl rfl fun a s => ?_
    refine asg s rfl rfl fun a s => ?_
    apply wN
    apply wR
    refine mv s rfl rfl fun a s => ?_
    refine qq s rfl (y_not s rfl) fun a s => ?_
    apply wN
    refine c_cond s rfl (fun hc27 => ?_) (fun hc27 => ?_)
    ·replace hg := br_t hg hc27
     apply wR
     refine asg s rfl rfl fun a s => ?_
     apply wN
     apply wp_ret
     refine p_thenR ?_
     refine p_inR ?_
     refine p_thenR ?_
     refine p_thenR ?_
     refine p_inR ?_
     refine p_inR ?_
     refine p_thenR ?_
     refine p_thenR ?_
     refine p_inR ?_
     refine p_thenR ?_
     obtain rfl := Option.some.inj hg
     refine fin1 (fn := Try.f33) s rfl (r_tmp s rfl) ?_
     exact rfl
    replace hg := br_n hg hc27
    apply wp_skip
    apply pN
    apply wQ
    obtain ⟨hk28, hg⟩ := chk_some hg
    obtain ⟨r29, hr29, hg⟩ := bind_some hg
    apply wL
    refine qq s rfl (y_boxField (o' := 1) s rfl underlying40 rfl rfl rfl) fun a s => ?_
    refine qq s rfl (y_loadBox1 (kk := 1402) s rfl rfl rfl underlying27 rfl) fun a s => ?_
    refine mv s rfl rfl fun a s => ?_
    have hcap111 := (s.ft 106 rfl).cap
    refine qq s rfl (y_cutH (xs := x11.Supers) (sz := 1) (i := t_17) s rfl rfl underlying27 rfl rfl hk28 hcap111) fun a s => ?_
    replace s := s.add 111 (sF Rep.str Aq152 cq152 ((x11.Supers).take t_17)) (SlR.cutH (s.ft 106 rfl) t_17 hk28)
    refine mv s rfl rfl fun a s => ?_
    refine lc s rfl func45 (by kernel_rfl) (c_slices_Contains_string n _ _ s.lt _ _ _ (s.ft 111 rfl) _ (by omega) _ hr29) fun v32 a w hK hp s => ?_
    obtain rfl := hp
    apply wN
    refine c_cond s rfl (fun hc34 => ?_) (fun hc34 => ?_)
    ·replace hg := br_t hg hc34
     apply wR
     refine asg s rfl rfl fun a s => ?_
     apply wN
     apply wp_ret
     refine p_inR ?_
     refine p_thenR ?_
     refine p_thenR ?_
     refine p_inR ?_
     refine p_inR ?_
     refine p_thenR ?_
     refine p_thenR ?_
     refine p_inR ?_
     refine p_thenR ?_
     obtain rfl := Option.some.inj hg
     refine fin1 (fn := Try.f33) s rfl (r_tmp s rfl) ?_
     exact rfl
    replace hg := br_n hg hc34
    apply wp_skip
    refine p_inN ?_
    apply pN
    apply wL
    refine qq s rfl (y_addN (i := t_17) (j := 1) s rfl rfl (in64.2 (by omega))) fun a s => ?_
    refine mv s rfl rfl fun a s => ?_
    apply wN
    exact ⟨m2, Nat.lt_succ_self _, ⟨(t_17 + 1), hg, (s.sb rfl rfl rfl)⟩⟩
   replace hg := br_f hg hc18
   apply wp_exit
   refine p_then ?_
   refine p_then ?_
   refine p_in ?_
   refine p_inN ?_
   apply pN
   exact ⟨hg, (s.sb rfl rfl rfl)⟩
  clear s a; rintro a w ⟨hg, s⟩
  subst hk9
  apply wL
  refine qq s rfl (y_addN (i := t_6) (j := 1) s rfl rfl (in64.2 (by omega))) fun a s => ?_
  refine mv s rfl rfl fun a s => ?_
  apply wN
  exact ⟨m1, Nat.lt_succ_self _, ⟨(t_6 + 1), hg, (s.sb rfl rfl rfl)⟩⟩
 replace hg := br_f hg hc7
 apply wp_exit
 refine p_then ?_
 refine p_then ?_
 refine p_in ?_
 apply pN
 apply wR
 refine asg s rfl rfl fun a s => ?_
 apply wN
 apply wp_ret
 obtain rfl := Option.some.inj hg
 refine fin1 (fn := Try.f33) s rfl (r_tmp s rfl) ?_
 exact rfl
set_option maxHeartbeats 1000000 in
theorem c_slices_IndexFunc_string (n : Nat) (M : Bs) (w0 : World) (hM : ∀ b, M b → b < w0.heap.size) (s_ : (List (List UInt8))) (Ap01 : Option Addr) (cp01 : Nat) (hp01 : SlR Rep.str M w0 Ap01 (s_).length cp01 (s_)) (f_ : ((List UInt8) → Option Bool)) (Ap11 : FuncId) (cp11 : List Value) (hp11 : FnR Try.prog Ap11 cp11 pre53 post53 (f_) M w0) (r : Int) (hg : slices_IndexFunc_string n s_ f_ = some r) :
    Calls Try.prog 60 [.slice (Ap01) ((s_).length) (cp01), .func (.func Ap11) #[] (List.toArray cp11)].toArray w0 (Ret noB w0 fun v w => v = .int .i64 (r)) := by
 unfold slices_IndexFunc_string at hg
 refine enter M noB func60 rfl rfl hM ?_
 intro a s
 replace s := s.es 101 hp01
 replace s := s.add 102 (fnF Try.prog Ap11 cp11 pre53 post53 (f_)) (by exact Fact.change _ enterM hp11)
 apply wR
 refine asg s rfl rfl fun a s => ?_
 apply wN
 apply wQ
 apply wR
 refine mv s rfl rfl fun a s => ?_
 refine qq s rfl (y_lenSlice s rfl underlying27) fun a s => ?_
 refine mv s rfl rfl fun a s => ?_
 apply wN
 apply wp_block
 refine c_loop (σ := Nat) (fun m1 a w => ∃ (t_1 : Nat), slices_IndexFunc_string_L0 n s_ f_ m1 t_1 = some r ∧ St (⟨Try.f60.ntmps, M, noB, w0⟩ : Ctx) [(0, sl Ap01 s_ cp01), (1, .func (.func Ap11) #[] (List.toArray cp11)), (7, vI ((((s_).length : Nat) : Int))), (8, vI (((t_1 : Nat) : Int)))] [] [(101, sF Rep.str Ap01 cp01 s_), (102, fnF Try.prog Ap11 cp11 pre53 post53 (f_))] a w) (fun m1 => m1) n ⟨(0), hg, (s.sb rfl rfl rfl)⟩ ?_
 clear s a; rintro m1 a w ⟨t_1, hg, s⟩
 rcases m1 with _ | m1
 ·rw [slices_IndexFunc_string_L0] at hg; cases hg
 rw [slices_IndexFunc_string_L0] at hg
 apply wR
 refine qq s rfl (y_lssN (i := t_1) (j := ((s_).length)) s rfl rfl) fun a s => ?_
 apply wN
 apply wQ
 refine c_dec s rfl (fun hc2 => ?_) (fun hc2 => ?_)
 ·replace hg := br_t hg hc2
  have hmx3 := SlR.mx (s.ft 101 rfl)
  apply wp_skip
  apply pN
  apply wQ
  apply wp_block
  apply wR
  refine mv s rfl rfl fun a s => ?_
  refine asg s rfl rfl fun a s => ?_
  apply wN
  apply wQ
  obtain ⟨x5, hx5, hg⟩ := bind_some hg
  obtain ⟨r7, hr7, hg⟩ := bind_some hg
  apply wL
  refine mv s rfl rfl fun a s => ?_
  refine mv s rfl rfl fun a s => ?_
  refine mv s rfl rfl fun a s => ?_
  obtain ⟨p10, hep10, hpp10⟩ := SlR.elemX (s.ft 101 rfl) hx5
  refine qq s rfl (y_elem (sz := 1) (i := t_1) s rfl rfl underlying27 rfl hep10 rfl (lt_of_get hx5)) fun a s => ?_
  obtain ⟨hlq11, hmq11, csq11, hdq11, hcq11⟩ := hpp10
  obtain ⟨rfl, lq111⟩ := hdq11
  refine qq s rfl (y_ldp1 s rfl hlq11 hmq11 (hcq11 0 _ rfl) underlying9 rfl) fun a s => ?_
  refine l_seq rfl (l_callFn (cap := cp11) (x := x5) s rfl (s.ft 102 rfl) rfl rfl ⟨rfl, (by omega)⟩ hr7 fun v12 a w hK hp s => ?_)
  obtain rfl := hp
  apply wN
  refine c_cond s rfl (fun hc14 => ?_) (fun hc14 => ?_)
  ·replace hg := br_t hg hc14
   apply wR
   refine mv s rfl rfl fun a s => ?_
   refine asg s rfl rfl fun a s => ?_
   apply wN
   apply wp_ret
   refine p_inR ?_
   refine p_thenR ?_
   refine p_thenR ?_
   refine p_inR ?_
   refine p_thenR ?_
   obtain rfl := Option.some.inj hg
   refine fin1 (fn := Try.f60) s rfl (r_tmp s rfl) ?_
   exact rfl
  replace hg := br_n hg hc14
  apply wp_skip
  refine p_inN ?_
  apply pN
  apply wL
  refine qq s rfl (y_addN (i := t_1) (j := 1) s rfl rfl (in64.2 (by omega))) fun a s => ?_
  refine mv s rfl rfl fun a s => ?_
  apply wN
  exact ⟨m1, Nat.lt_succ_self _, ⟨(t_1 + 1), hg, (s.sb rfl rfl rfl)⟩⟩
 replace hg := br_f hg hc2
 apply wp_exit
 refine p_then ?_
 refine p_then ?_
 refine p_in ?_
 apply pN
 apply wR
 refine asg s rfl rfl fun a s => ?_
 apply wN
 apply wp_ret
 obtain rfl := Option.some.inj hg
 refine fin1 (fn := Try.f60) s rfl (r_tmp s rfl) ?_
 exact rfl
set_option maxHeartbeats 1000000 in
theorem c_slices_DeleteFunc_string (n : Nat) (M : Bs) (w0 : World) (hM : ∀ b, M b → b < w0.heap.size) (C : Bs) (s_ : (List (List UInt8))) (Ap01 : Option Addr) (cp01 : Nat) (csp00 : List Value) (del_ : ((List UInt8) → Option Bool)) (Ap11 : FuncId) (cp11 : List Value) (hW : Wd ⟨0, M, C, w0⟩ [(9200000, Ob.row (Ap01) ((s_).length) (cp01) 9 1 (csp00))] [(9300000, rdF Rep.str (csp00) (s_)), (9400000, fnF Try.prog Ap11 cp11 pre53 post53 (del_))] w0) (r : (List (List UInt8))) (hg : slices_DeleteFunc_string n s_ del_ = some r) :
    Calls Try.prog 48 [.slice (Ap01) ((s_).length) (cp01), .func (.func Ap11) #[] (List.toArray cp11)].toArray w0 (Ret C w0 fun v w => ∃ (Ao : Option Addr), ∃ (co : Nat), ∃ (cso : List Value), v = .slice (Ao) ((r).length) (co) ∧ (Wd ⟨0, M, C, w0⟩ [(9200000, Ob.row (Ao) ((r).length) (co) 9 1 (cso))] [(9300000, rdF Rep.str (cso) (r))] w)) := by
 unfold slices_DeleteFunc_string at hg
 refine enterL M C func48 rfl rfl hW ?_
 intro a s
 apply wR
 refine asg s rfl rfl fun a s => ?_
 apply wN
 apply wQ
 obtain ⟨r1, hr1, hg⟩ := bind_some hg
 apply wL
 refine mv s rfl rfl fun a s => ?_
 refine mv s rfl rfl fun a s => ?_
 have hT := s
 replace hT := hT.fz (R := Rep.str) (kk := 9200000) [] 103 rfl rfl (hT.ft 9300000 rfl) rfl
 refine lc s rfl func60 (by kernel_rfl) (c_slices_IndexFunc_string n _ _ hT.lt _ _ _ (hT.ft 103 rfl) _ _ _ (hT.ft 9400000 rfl) _ hr1) fun v4 a w hK hp s => ?_
 obtain rfl := hp
 refine asg s rfl rfl fun a s => ?_
 apply wN
 apply wQ
 apply wR
 refine mv s rfl rfl fun a s => ?_
 refine qq s rfl (y_eql s rfl rfl) fun a s => ?_
 apply wN
 refine c_dec s rfl (fun hc6 => ?_) (fun hc6 => ?_)
 ·replace hg := br_t hg hc6
  apply wR
  refine mv s rfl rfl fun a s => ?_
  refine asg s rfl rfl fun a s => ?_
  apply wN
  apply wp_ret
  refine p_thenR ?_
  replace s := s.al 9300000 9300000 rfl
  obtain rfl := Option.some.inj hg
  refine fin1 (fn := Try.f48) s rfl (r_tmp s rfl) ?_
  exact ⟨(Ap01), (cp01), (csp00), rfl, ((s.ren [(9200000, Ob.row (Ap01) ((s_).length) (cp01) 9 1 (csp00))] [9200000] ⟨rfl, trivial⟩ (by decide)).outL ⟨rfl, trivial⟩ ⟨rfl, trivial⟩)⟩
 replace hg := br_f hg hc6
 apply wp_skip
 apply pN
 apply wQ
 apply wQ
 obtain ⟨hk7, hg⟩ := chk_some hg
 apply wL
 refine mv s rfl rfl fun a s => ?_
 refine qq s rfl (y_add s rfl rfl (in64.2 hk7)) fun a s => ?_
 refine asg s rfl rfl fun a s => ?_
 apply wN
 obtain ⟨k8, hg, hk8⟩ := jn_some hg
 refine c_post (fun a w => ∃ (s_9 : (List (List UInt8))) (i_13 : Int) (A10 : Option Addr) (c11 : Nat) (cs12 : List Value), k8 s_9 i_13 = some r ∧ St (⟨Try.f48.ntmps, M, C, w0⟩ : Ctx) [(0, sl A10 s_9 c11), (5, vI i_13)] [(700104, Ob.row (A10) ((s_9).length) (c11) 9 1 (cs12))] [(105, rdF Rep.str (cs12) (s_9))] a w) ?_ ?_
 ·apply wp_block
  replace s := s.al 107 9300000 rfl
  replace s := s.pk [(700106, 9200000)] (by decide)
  refine c_loop (σ := Nat) (fun m1 a w => ∃ (s_14 : (List (List UInt8))) (i_18 : Int) (j_19 : Int) (A15 : Option Addr) (c16 : Nat) (cs17 : List Value), slices_DeleteFunc_string_L0 n del_ k8 m1 s_14 i_18 j_19 = some r ∧ St (⟨Try.f48.ntmps, M, C, w0⟩ : Ctx) [(0, sl A15 s_14 c16), (1, .func (.func Ap11) #[] (List.toArray cp11)), (5, vI i_18), (6, vI j_19)] [(700106, Ob.row (A15) ((s_14).length) (c16) 9 1 (cs17))] [(107, rdF Rep.str (cs17) (s_14)), (9400000, fnF Try.prog Ap11 cp11 pre53 post53 (del_))] a w) (fun m1 => m1) n ⟨(s_), (r1), (r1 + 1), (Ap01), (cp01), (csp00), hg, (s.sb rfl rfl rfl)⟩ ?_
  clear s a; rintro m1 a w ⟨s_14, i_18, j_19, A15, c16, cs17, hg, s⟩
  rcases m1 with _ | m1
  ·rw [slices_DeleteFunc_string_L0] at hg; cases hg
  rw [slices_DeleteFunc_string_L0] at hg
  apply wQ
  apply wR
  refine mv s rfl rfl fun a s => ?_
  refine mv s rfl rfl fun a s => ?_
  refine qq s rfl (y_lenSlice s rfl underlying27) fun a s => ?_
  refine qq s rfl (y_lss s rfl rfl) fun a s => ?_
  apply wN
  refine c_dec s rfl (fun hc20 => ?_) (fun hc20 => ?_)
  ·replace hg := br_t hg hc20
   apply wp_skip
   apply pN
   apply wQ
   apply wp_block
   apply wQ
   obtain ⟨x22, hx22, hg⟩ := bind_some hg
   apply wL
   refine mv s rfl rfl fun a s => ?_
   refine mv s rfl rfl fun a s => ?_
   obtain ⟨hiq24, bq24, hAq24⟩ := SlR.row1 (s.wd.holds 700106 _ rfl) (s.ft 107 rfl) rfl rfl (ix_some hx22).1
   refine qq s rfl (y_rowIndex (sz := 1) (i := ((j_19).toNat)) s rfl rfl underlying27 rfl hAq24 (ix_some hx22).2.1 hiq24) fun a s => ?_
   have hz25 := (s.ft 107 rfl).at_ _ _ (ix_some hx22).1
   obtain ⟨ez25, lz251⟩ := hz25
   refine qq s rfl (y_loadRow1 (kk := 700106) s rfl rfl hAq24 (take1 ez25) underlying9 rfl) fun a s => ?_
   refine asg s rfl rfl fun a s => ?_
   apply wN
   apply wQ
   obtain ⟨r26, hr26, hg⟩ := bind_some hg
   apply wL
   refine mv s rfl rfl fun a s => ?_
   refine mv s rfl rfl fun a s => ?_
   refine l_seq rfl (l_callFn (cap := cp11) (x := x22) s rfl (s.ft 9400000 rfl) rfl rfl ⟨rfl, (by omega)⟩ hr26 fun v29 a w hK hp s => ?_)
   obtain rfl := hp
   refine qq s rfl (y_not s rfl) fun a s => ?_
   apply wN
   refine c_cond s rfl (fun hc31 => ?_) (fun hc31 => ?_)
   ·replace hg := br_t hg hc31
    apply wQ
    obtain ⟨x33, hx33, hg⟩ := bind_some hg
    apply wL
    refine mv s rfl rfl fun a s => ?_
    refine mv s rfl rfl fun a s => ?_
    refine mv s rfl rfl fun a s => ?_
    obtain ⟨hiq34, bq34, hAq34⟩ := SlR.row1 (s.wd.holds 700106 _ rfl) (s.ft 107 rfl) rfl rfl (ix_some hx33).1
    refine qq s rfl (y_rowIndex (sz := 1) (i := ((i_18).toNat)) s rfl rfl underlying27 rfl hAq34 (ix_some hx33).2.1 hiq34) fun a s => ?_
    have hzi := lt_of_get (ix_some hx33).1
    have hzn := rowN (s.wd.holds 700106 _ rfl) (s.ft 107 rfl) rfl rfl
    have hzf : ((i_18).toNat) * 1 + 1 ≤ ((s_14).length) * 1 := by have := Nat.mul_le_mul_right 1 (Nat.succ_le_of_lt hzi); omega
    refine l_seq rfl (l_storeRow (N := 1) (cs' := splice (cs17) (((i_18).toNat) * 1) [vT x22]) s 700106 rfl rfl rfl hAq34 rfl rfl hzf rfl rfl ?_); clear s; intro w hK s; clear hK
    replace s := s.sub (l' := [(0, .slice (A15) ((s_14).length) (c16)), (1, .func (.func Ap11) #[] (List.toArray cp11)), (5, .int .i64 (i_18)), (6, .int .i64 (j_19)), (7, .string (bs (x22))), (16, .int .i64 (j_19)), (17, .slice (A15) ((s_14).length) (c16)), (18, .int .i64 ((((s_14).length : Nat) : Int))), (19, .bool (decide (j_19 < (((s_14).length : Nat) : Int)))), (22, .slice (A15) ((s_14).length) (c16)), (23, .int .i64 (j_19)), (24, .pointer (some ⟨bq24, ((j_19).toNat) * 1, none⟩)), (25, .string (bs (x22))), (26, .func (.func Ap11) #[] (List.toArray cp11)), (27, .string (bs (x22))), (28, .bool (r26)), (29, .bool (!(r26))), (30, .slice (A15) ((s_14).length) (c16)), (31, .int .i64 (i_18)), (32, .string (bs (x22))), (33, .pointer (some ⟨bq34, ((i_18).toNat) * 1, none⟩))]) (L' := [(700106, Ob.row (A15) ((s_14).length) (c16) 9 1 (splice (cs17) (((i_18).toNat) * 1) [.string (bs (x22))]))]) (D' := [(107, rdF Rep.str (cs17) (s_14)), (9400000, fnF Try.prog Ap11 cp11 pre53 post53 (del_))]) ⟨rfl, rfl, rfl, rfl, rfl, rfl, rfl, rfl, rfl, rfl, rfl, rfl, rfl, rfl, rfl, rfl, rfl, rfl, rfl, rfl, rfl, trivial⟩ ⟨rfl, trivial⟩ ⟨rfl, rfl, trivial⟩
    replace s := s.eqs (l' := [(0, .slice (A15) (((s_14).set ((i_18).toNat) x22).length) (c16)), (1, .func (.func Ap11) #[] (List.toArray cp11)), (5, .int .i64 (i_18)), (6, .int .i64 (j_19)), (7, .string (bs (x22))), (16, .int .i64 (j_19)), (17, .slice (A15) (((s_14).set ((i_18).toNat) x22).length) (c16)), (18, .int .i64 ((((s_14).length : Nat) : Int))), (19, .bool (decide (j_19 < (((s_14).length : Nat) : Int)))), (22, .slice (A15) (((s_14).set ((i_18).toNat) x22).length) (c16)), (23, .int .i64 (j_19)), (24, .pointer (some ⟨bq24, ((j_19).toNat) * 1, none⟩)), (25, .string (bs (x22))), (26, .func (.func Ap11) #[] (List.toArray cp11)), (27, .string (bs (x22))), (28, .bool (r26)), (29, .bool (!(r26))), (30, .slice (A15) (((s_14).set ((i_18).toNat) x22).length) (c16)), (31, .int .i64 (i_18)), (32, .string (bs (x22))), (33, .pointer (some ⟨bq34, ((i_18).toNat) * 1, none⟩))]) (L' := [(700106, Ob.row (A15) (((s_14).set ((i_18).toNat) x22).length) (c16) 9 1 (splice (cs17) (((i_18).toNat) * 1) [.string (bs (x22))]))]) (by simp only [List.length_set]) (by simp only [List.length_set])
    replace s := s.add 109 (rdF Rep.str (splice (cs17) (((i_18).toNat) * 1) [vT x22]) ((s_14).set ((i_18).toNat) x22)) (RdAll.put (s.ft 107 rfl) ⟨rfl, (by omega)⟩ hzi)
    apply wN
    obtain ⟨hk35, hg⟩ := chk_some hg
    apply wL
    refine mv s rfl rfl fun a s => ?_
    refine qq s rfl (y_add s rfl rfl (in64.2 hk35)) fun a s => ?_
    refine asg s rfl rfl fun a s => ?_
    apply wO
    refine p_inN ?_
    apply pN
    obtain ⟨hk36, hg⟩ := chk_some hg
    apply wL
    refine mv s rfl rfl fun a s => ?_
    refine qq s rfl (y_add s rfl rfl (in64.2 hk36)) fun a s => ?_
    refine asg s rfl rfl fun a s => ?_
    apply wN
    replace s := s.al 107 109 rfl
    exact ⟨m1, Nat.lt_succ_self _, ⟨((s_14).set ((i_18).toNat) x22), (i_18 + 1), (j_19 + 1), (A15), (c16), (splice (cs17) (((i_18).toNat) * 1) [vT x22]), hg, (s.sb rfl rfl rfl)⟩⟩
   replace hg := br_n hg hc31
   apply wp_skip
   refine p_inN ?_
   apply pN
   obtain ⟨hk37, hg⟩ := chk_some hg
   apply wL
   refine mv s rfl rfl fun a s => ?_
   refine qq s rfl (y_add s rfl rfl (in64.2 hk37)) fun a s => ?_
   refine asg s rfl rfl fun a s => ?_
   apply wN
   replace s := s.al 107 107 rfl
   exact ⟨m1, Nat.lt_succ_self _, ⟨(s_14), (i_18), (j_19 + 1), (A15), (c16), (cs17), hg, (s.sb rfl rfl rfl)⟩⟩
  replace hg := br_f hg hc20
  apply wp_exit
  refine p_then ?_
  refine p_then ?_
  refine p_in ?_
  apply pN
  replace s := s.al 105 107 rfl
  replace s := s.pk [(700104, 700106)] (by decide)
  exact ⟨(s_14), (i_18), (A15), (c16), (cs17), hg, (s.sb rfl rfl rfl)⟩
 clear s a; rintro a w ⟨s_9, i_13, A10, c11, cs12, hg, s⟩
 subst hk8
 apply wQ
 obtain ⟨hk38, hg⟩ := chk_some hg
 obtain ⟨hk39, hg⟩ := chk_some hg
 apply wL
 refine mv s rfl rfl fun a s => ?_
 refine mv s rfl rfl fun a s => ?_
 have hrl112 := rowN (s.wd.holds 700104 _ rfl) (s.ft 105 rfl) rfl rfl
 have hcap112 := row_cap (s.wd.holds 700104 _ rfl)
 have hmx112 := row_mx (s.wd.holds 700104 _ rfl)
 refine qq s rfl (y_cutL (xs := s_9) (sz := 1) (i := ((i_13).toNat)) s rfl rfl underlying27 rfl (by omega) hk39 (by omega)) fun a s => ?_
 refine l_seq rfl (l_clearTail (i := ((i_13).toNat)) s 700104 rfl rfl List.length_drop hk39 underlying27 Try.zeroValue9 rfl rfl ?_); clear s; intro w hK s; clear hK
 replace s := s.sub (l' := [(0, .slice (A10) ((s_9).length) (c11)), (5, .int .i64 (i_13)), (36, .slice (A10) ((s_9).length) (c11)), (37, .int .i64 (i_13)), (38, .slice (if c11 = (i_13).toNat then A10 else (A10).map (·.add (((i_13).toNat) * 1))) (((s_9).drop ((i_13).toNat)).length) (c11 - ((i_13).toNat)))]) (L' := [(700104, Ob.row (A10) ((s_9).length) (c11) 9 1 (splice (cs12) ((i_13).toNat) (List.replicate ((s_9).length - ((i_13).toNat)) (.string (bs [])))))]) (D' := [(105, rdF Rep.str (cs12) (s_9))]) ⟨rfl, rfl, rfl, rfl, rfl, trivial⟩ ⟨rfl, trivial⟩ ⟨rfl, trivial⟩
 replace s := s.eqs (l' := [(0, .slice (A10) ((clr s_9 ((i_13).toNat)).length) (c11)), (5, .int .i64 (i_13)), (36, .slice (A10) ((clr s_9 ((i_13).toNat)).length) (c11)), (37, .int .i64 (i_13)), (38, .slice (if c11 = (i_13).toNat then A10 else (A10).map (·.add (((i_13).toNat) * 1))) (((s_9).drop ((i_13).toNat)).length) (c11 - ((i_13).toNat)))]) (L' := [(700104, Ob.row (A10) ((clr s_9 ((i_13).toNat)).length) (c11) 9 1 (splice (cs12) ((i_13).toNat) (List.replicate ((s_9).length - ((i_13).toNat)) (.string (bs [])))))]) (by simp only [clr_len hk39]) (by simp only [clr_len hk39])
 replace s := s.add 113 (rdF Rep.str (splice (cs12) ((i_13).toNat) (List.replicate ((s_9).length - ((i_13).toNat)) (.string (bs [])))) (clr s_9 ((i_13).toNat))) (RdAll.splice0 (s.ft 105 rfl) hk39 rfl)
 apply wN
 apply wQ
 obtain ⟨hk40, hg⟩ := chk_some hg
 apply wL
 refine mv s rfl rfl fun a s => ?_
 refine mv s rfl rfl fun a s => ?_
 have hcap115 := row_cap (s.wd.holds 700104 _ rfl)
 have hrl115 := rowN (s.wd.holds 700104 _ rfl) (s.ft 113 rfl) rfl rfl
 refine qq s rfl (y_cutRow (i := ((i_13).toNat)) (xs := (clr s_9 ((i_13).toNat))) (sz := 1) s rfl rfl underlying27 rfl (by omega) hk40 hrl115 hcap115) fun a s => ?_
 replace s := s.rowCutL (kk := 700104) (i := ((i_13).toNat)) (xs := (clr s_9 ((i_13).toNat))) rfl hrl115 hk40
 replace s := s.add 115 (rdF Rep.str ((splice (cs12) ((i_13).toNat) (List.replicate ((s_9).length - ((i_13).toNat)) (.string (bs [])))).take (((i_13).toNat) * 1)) ((clr s_9 ((i_13).toNat)).take ((i_13).toNat))) ((s.ft 113 rfl).take ((i_13).toNat) hk40)
 refine asg s rfl rfl fun a s => ?_
 apply wN
 apply wp_ret
 replace s := s.al 9300000 115 rfl
 obtain rfl := Option.some.inj hg
 refine fin1 (fn := Try.f48) s rfl (r_tmp s rfl) ?_
 exact ⟨(A10), (c11), ((splice (cs12) ((i_13).toNat) (List.replicate ((s_9).length - ((i_13).toNat)) (.string (bs [])))).take (((i_13).toNat) * 1)), rfl, ((s.ren [(9200000, Ob.row (A10) (((clr s_9 ((i_13).toNat)).take ((i_13).toNat)).length) (c11) 9 1 ((splice (cs12) ((i_13).toNat) (List.replicate ((s_9).length - ((i_13).toNat)) (.string (bs [])))).take (((i_13).toNat) * 1)))] [700104] ⟨rfl, trivial⟩ (by decide)).outL ⟨rfl, trivial⟩ ⟨rfl, trivial⟩)⟩
set_option maxHeartbeats 1000000 in
theorem c_slices_Min_string (n : Nat) (M : Bs) (w0 : World) (hM : ∀ b, M b → b < w0.heap.size) (x_ : (List (List UInt8))) (Ap01 : Option Addr) (cp01 : Nat) (hp01 : SlR Rep.str M w0 Ap01 (x_).length cp01 (x_)) (r : (List UInt8)) (hg : slices_Min_string n x_ = some r) :
    Calls Try.prog 53 [.slice (Ap01) ((x_).length) (cp01)].toArray w0 (Ret noB w0 fun v w => v = .string (bs (r)) ∧ ((r).length ≤ 9223372036854775807)) := by
 unfold slices_Min_string at hg
 refine enter M noB func53 rfl rfl hM ?_
 intro a s
 replace s := s.es 101 hp01
 apply wR
 refine asg s rfl rfl fun a s => ?_
 apply wN
 apply wQ
 apply wR
 refine mv s rfl rfl fun a s => ?_
 refine qq s rfl (y_lenSlice s rfl underlying27) fun a s => ?_
 refine qq s rfl (y_lssN (i := ((x_).length)) (j := 1) s rfl rfl) fun a s => ?_
 apply wN
 refine c_dec s rfl (fun hc1 => ?_) (fun hc1 => ?_)
 ·replace hg := br_t hg hc1
  cases hg
 replace hg := br_f hg hc1
 apply wp_skip
 apply pN
 apply wQ
 obtain ⟨x3, hx3, hg⟩ := bind_some hg
 apply wL
 refine mv s rfl rfl fun a s => ?_
 obtain ⟨p5, hep5, hpp5⟩ := SlR.elemX (s.ft 101 rfl) hx3
 refine qq s rfl (y_elem (sz := 1) (i := 0) s rfl rfl underlying27 rfl hep5 rfl (lt_of_get hx3)) fun a s => ?_
 obtain ⟨hlq6, hmq6, csq6, hdq6, hcq6⟩ := hpp5
 obtain ⟨rfl, lq61⟩ := hdq6
 refine qq s rfl (y_ldp1 s rfl hlq6 hmq6 (hcq6 0 _ rfl) underlying9 rfl) fun a s => ?_
 refine asg s rfl rfl fun a s => ?_
 apply wN
 apply wQ
 apply wR
 refine asg s rfl rfl fun a s => ?_
 apply wN
 apply wp_block
 refine c_loop (σ := Nat) (fun m1 a w => ∃ (m_7 : (List UInt8)) (i_8 : Nat), slices_Min_string_L0 n x_ m1 m_7 i_8 = some r ∧ ((m_7).length ≤ 9223372036854775807) ∧ St (⟨Try.f53.ntmps, M, noB, w0⟩ : Ctx) [(0, sl Ap01 x_ cp01), (3, vT m_7), (4, vI (((i_8 : Nat) : Int)))] [] [(101, sF Rep.str Ap01 cp01 x_)] a w) (fun m1 => m1) n ⟨(x3), (1), hg, (by omega), (s.sb rfl rfl rfl)⟩ ?_
 clear s a; rintro m1 a w ⟨m_7, i_8, hg, lm_7, s⟩
 rcases m1 with _ | m1
 ·rw [slices_Min_string_L0] at hg; cases hg
 rw [slices_Min_string_L0] at hg
 apply wQ
 apply wR
 refine mv s rfl rfl fun a s => ?_
 refine mv s rfl rfl fun a s => ?_
 refine qq s rfl (y_lenSlice s rfl underlying27) fun a s => ?_
 refine qq s rfl (y_lssN (i := i_8) (j := ((x_).length)) s rfl rfl) fun a s => ?_
 apply wN
 refine c_dec s rfl (fun hc9 => ?_) (fun hc9 => ?_)
 ·replace hg := br_t hg hc9
  have hmx10 := SlR.mx (s.ft 101 rfl)
  apply wp_skip
  apply pN
  apply wQ
  apply wp_block
  obtain ⟨x12, hx12, hg⟩ := bind_some hg
  apply wL
  refine mv s rfl rfl fun a s => ?_
  refine mv s rfl rfl fun a s => ?_
  refine mv s rfl rfl fun a s => ?_
  obtain ⟨p14, hep14, hpp14⟩ := SlR.elemX (s.ft 101 rfl) hx12
  refine qq s rfl (y_elem (sz := 1) (i := i_8) s rfl rfl underlying27 rfl hep14 rfl (lt_of_get hx12)) fun a s => ?_
  obtain ⟨hlq15, hmq15, csq15, hdq15, hcq15⟩ := hpp14
  obtain ⟨rfl, lq151⟩ := hdq15
  refine qq s rfl (y_ldp1 s rfl hlq15 hmq15 (hcq15 0 _ rfl) underlying9 rfl) fun a s => ?_
  refine qq s rfl (y_minStr s rfl rfl) fun a s => ?_
  refine asg s rfl rfl fun a s => ?_
  apply wO
  refine p_inN ?_
  apply pN
  apply wL
  refine mv s rfl rfl fun a s => ?_
  refine qq s rfl (y_addN (i := i_8) (j := 1) s rfl rfl (in64.2 (by omega))) fun a s => ?_
  refine asg s rfl rfl fun a s => ?_
  apply wN
  exact ⟨m1, Nat.lt_succ_self _, ⟨(smin m_7 x12), (i_8 + 1), hg, (by first | omega | (rw [List.length_append]; omega) | (simp only [List.length_append]; omega) | (simp only [List.length_append, List.length_take, List.length_drop, List.length_cons, List.length_nil]; omega) | exact smin_len (by omega) (by omega)), (s.sb rfl rfl rfl)⟩⟩
 replace hg := br_f hg hc9
 apply wp_exit
 refine p_then ?_
 refine p_then ?_
 refine p_in ?_
 apply pN
 apply wR
 refine mv s rfl rfl fun a s => ?_
 refine asg s rfl rfl fun a s => ?_
 apply wN
 apply wp_ret
 obtain rfl := Option.some.inj hg
 refine fin1 (fn := Try.f53) s rfl (r_tmp s rfl) ?_
 exact ⟨rfl, (by omega)⟩
set_option maxHeartbeats 1000000 in
theorem c_poset_ordered_1 (n : Nat) (M : Bs) (w0 : World) (hM : ∀ b, M b → b < w0.heap.size) (s_ : (List UInt8)) (lp01 : (s_).length ≤ 9223372036854775807) (bf0 : Nat) (c0_ : (List UInt8)) (lf01 : (c0_).length ≤ 9223372036854775807) (hb0 : BoxR bf0 [.string (bs (c0_))] 9 M w0) (r : Bool) (hg : poset_ordered_1 n s_ c0_ = some r) :
    Calls Try.prog 54 [.string (bs (s_)), .pointer (some ⟨bf0, 0, none⟩)].toArray w0 (Ret noB w0 fun v w => v = .bool (r)) := by
 unfold poset_ordered_1 at hg
 refine enter M noB func54 rfl rfl hM ?_
 intro a s
 replace s := s.ebx 101 hb0
 apply wR
 refine asg s rfl rfl fun a s => ?_
 apply wN
 apply wR
 refine mv s rfl rfl fun a s => ?_
 refine qq s rfl (y_loadF1 s rfl (s.ft 101 rfl) rfl underlying9 rfl) fun a s => ?_
 refine qq s rfl (y_seq s rfl rfl) fun a s => ?_
 refine asg s rfl rfl fun a s => ?_
 apply wN
 apply wp_ret
 obtain rfl := Option.some.inj hg
 refine fin1 (fn := Try.f54) s rfl (r_tmp s rfl) ?_
 exact rfl
set_option maxHeartbeats 1000000 in
theorem c_poset_ordered (n : Nat) (M : Bs) (w0 : World) (hM : ∀ b, M b → b < w0.heap.size) (t_ : (List TypeDecl)) (Ap01 : Option Addr) (cp01 : Nat) (hp01 : SlR RTypeDecl M w0 Ap01 (t_).length cp01 (t_)) (r : (List (List UInt8))) (hg : poset_ordered n t_ = some r) :
    Calls Try.prog 34 [.slice (Ap01) ((t_).length) (cp01)].toArray w0 (Ret noB w0 fun v w => ∃ (Aa1 : Option Addr), ∃ (ca1 : Nat), v = .slice (Aa1) ((r).length) (ca1) ∧ (SlR Rep.str M w Aa1 (r).length ca1 (r))) := by
 unfold poset_ordered at hg
 refine enter M noB func34 rfl rfl hM ?_
 intro a s
 replace s := s.es 101 hp01
 apply wR
 refine asg s rfl rfl fun a s => ?_
 apply wN
 apply wR
 refine mv s rfl rfl fun a s => ?_
 refine qq s rfl (y_lenSlice s rfl underlying22) fun a s => ?_
 refine l_seq rfl (l_makeMap (n := (((t_).length : Nat) : Int)) s 1102 underlying60 (.inr rfl) rfl rfl fun b2 a w hb hK s => ?_)
 replace s := s.add 103 (kvF (Rep.num .i64) ([]) ([])) (KvRel.nil)
 refine asg s rfl rfl fun a s => ?_
 apply wN
 apply wR
 refine l_seq rfl (l_makeRows (n := 0) s 1200 9 1 underlying49 (.inl rfl) rfl rfl fun b4 a w hb hK s => ?_)
 replace s := s.add 105 (rowsF Rep.str ([]) ([])) (KvRel.nil)
 refine asg s rfl rfl fun a s => ?_
 apply wN
 apply wR
 refine asg s rfl rfl fun a s => ?_
 apply wN
 apply wQ
 apply wR
 refine mv s rfl rfl fun a s => ?_
 refine qq s rfl (y_lenSlice s rfl underlying22) fun a s => ?_
 refine mv s rfl rfl fun a s => ?_
 apply wN
 obtain ⟨k5, hg, hk5⟩ := jn_some hg
 refine c_post (fun a w => ∃ (t_6 : (List (List UInt8 × Int))) (t_8 : (List (List UInt8 × (List (List UInt8))))), ∃ (t_10 : (List (List UInt8))) (kv7 : List (List UInt8 × Value)) (kv9 : List (List UInt8 × Rw)) (A11 : Option Addr) (c12 : Nat) (cs13 : List Value), k5 t_6 t_8 t_10 = some r ∧ St (⟨Try.f34.ntmps, M, noB, w0⟩ : Ctx) [(3, .map (some b2)), (4, .map (some b4)), (5, sl A11 t_10 c12)] [(1102, Ob.smap b2 (kv7)), (1200, Ob.mrows b4 9 1 (kv9) none), (700108, Ob.row (A11) ((t_10).length) (c12) 9 1 (cs13))] [(106, kvF (Rep.num .i64) (kv7) (t_6)), (107, rowsF Rep.str (kv9) (t_8)), (109, rdF Rep.str (cs13) (t_10))] a w) ?_ ?_
 ·apply wp_block
  replace s := s.al 110 103 rfl
  replace s := s.al 111 105 rfl
  replace s := s.nilRow 700112 9 1 rfl
  replace s := s.add 113 (rdF Rep.str [] []) (RdAll.nil _ _ _)
  refine c_loop (σ := Nat) (fun m1 a w => ∃ (t_14 : (List (List UInt8 × Int))) (t_16 : (List (List UInt8 × (List (List UInt8))))), ∃ (t_18 : (List (List UInt8))) (t_22 : Nat) (kv15 : List (List UInt8 × Value)) (kv17 : List (List UInt8 × Rw)) (A19 : Option Addr) (c20 : Nat) (cs21 : List Value), poset_ordered_L0 n t_ k5 m1 t_14 t_16 t_18 t_22 = some r ∧ St (⟨Try.f34.ntmps, M, noB, w0⟩ : Ctx) [(3, .map (some b2)), (4, .map (some b4)), (5, sl A19 t_18 c20), (18, sl Ap01 t_ cp01), (19, vI ((((t_).length : Nat) : Int))), (20, vI (((t_22 : Nat) : Int)))] [(1102, Ob.smap b2 (kv15)), (1200, Ob.mrows b4 9 1 (kv17) none), (700112, Ob.row (A19) ((t_18).length) (c20) 9 1 (cs21))] [(101, sF RTypeDecl Ap01 cp01 t_), (110, kvF (Rep.num .i64) (kv15) (t_14)), (111, rowsF Rep.str (kv17) (t_16)), (113, rdF Rep.str (cs21) (t_18))] a w) (fun m1 => m1) n ⟨([]), ([]), ([]), (0), ([]), ([]), (none), (0), ([]), hg, (s.sb rfl rfl rfl)⟩ ?_
  clear s a; rintro m1 a w ⟨t_14, t_16, t_18, t_22, kv15, kv17, A19, c20, cs21, hg, s⟩
  rcases m1 with _ | m1
  ·rw [poset_ordered_L0] at hg; cases hg
  rw [poset_ordered_L0] at hg
  apply wR
  refine qq s rfl (y_lssN (i := t_22) (j := ((t_).length)) s rfl rfl) fun a s => ?_
  apply wN
  apply wQ
  refine c_dec s rfl (fun hc23 => ?_) (fun hc23 => ?_)
  ·replace hg := br_t hg hc23
   have hmx24 := SlR.mx (s.ft 101 rfl)
   apply wp_skip
   apply pN
   apply wQ
   obtain ⟨k25, hg, hk25⟩ := jn_some hg
   refine c_post (fun a w => ∃ (t_26 : (List (List UInt8 × Int))) (t_28 : (List (List UInt8 × (List (List UInt8))))), ∃ (t_30 : (List (List UInt8))) (kv27 : List (List UInt8 × Value)) (kv29 : List (List UInt8 × Rw)) (A31 : Option Addr) (c32 : Nat) (cs33 : List Value), k25 t_26 t_28 t_30 = some r ∧ St (⟨Try.f34.ntmps, M, noB, w0⟩ : Ctx) [(3, .map (some b2)), (4, .map (some b4)), (5, sl A31 t_30 c32), (18, sl Ap01 t_ cp01), (19, vI ((((t_).length : Nat) : Int))), (20, vI (((t_22 : Nat) : Int)))] [(1102, Ob.smap b2 (kv27)), (1200, Ob.mrows b4 9 1 (kv29) none), (700116, Ob.row (A31) ((t_30).length) (c32) 9 1 (cs33))] [(101, sF RTypeDecl Ap01 cp01 t_), (114, kvF (Rep.num .i64) (kv27) (t_26)), (115, rowsF Rep.str (kv29) (t_28)), (117, rdF Rep.str (cs33) (t_30))] a w) ?_ ?_
   ·apply wp_block
    apply wQ
    obtain ⟨x35, hx35, hg⟩ := bind_some hg
    apply wL
    obtain ⟨p38, hep38, hpp38⟩ := SlR.elemX (s.ft 101 rfl) hx35
    refine qq s rfl (y_elem (sz := 3) (i := t_22) s rfl rfl underlying22 rfl hep38 rfl (lt_of_get hx35)) fun a s => ?_
    obtain ⟨hlq39, hmq39, csq39, hdq39, hcq39⟩ := hpp38
    obtain ⟨Aq392, cq392, Aq393, cq393, rfl, lq391, hq392, hq393⟩ := RTypeDecl.open hdq39
    replace s := s.ns 120 hq392
    replace s := s.ns 121 hq393
    refine qq s rfl (y_ldp s rfl hlq39 hmq39 (by simpa using hcq39) underlying40 rfl rfl) fun a s => ?_
    refine l_seq rfl (l_alloc (zs := [vT ([]), .slice none 0 0, .slice none 0 0]) s 1602 rfl rfl rfl rfl fun b40 a w hb hK s => ?_)
    refine l_seq rfl (l_store (n := 3) (cs' := [vT x35.Name, sl Aq392 x35.Supers cq392, sl Aq393 x35.Feats cq393]) s 1602 rfl rfl rfl rfl rfl rfl rfl rfl ?_); clear s; intro w hK s; clear hK
    apply wN
    apply wR
    refine mv s rfl rfl fun a s => ?_
    refine qq s rfl (y_boxField (o' := 0) s rfl underlying40 rfl rfl rfl) fun a s => ?_
    refine qq s rfl (y_loadBox1 (kk := 1602) s rfl rfl rfl underlying9 rfl) fun a s => ?_
    refine qq s rfl (y_boxField (o' := 1) s rfl underlying40 rfl rfl rfl) fun a s => ?_
    refine qq s rfl (y_loadBox1 (kk := 1602) s rfl rfl rfl underlying27 rfl) fun a s => ?_
    refine qq s rfl (y_lenSlice s rfl underlying27) fun a s => ?_
    refine l_seq rfl (l_mapUpdate s 1102 rfl rfl rfl rfl underlying60 underlying9 fun w hK s => ?_)
    replace s := s.add 123 (kvF (Rep.num .i64) (mset (kv15) (x35.Name) (vI ((((x35.Supers).length : Nat) : Int)))) (mset (t_14) (x35.Name) ((((x35.Supers).length : Nat) : Int)))) (kvF_set (s.ft 110 rfl) (by exact rfl))
    apply wN
    apply wQ
    apply wR
    refine qq s rfl (y_boxField (o' := 1) s rfl underlying40 rfl rfl rfl) fun a s => ?_
    refine qq s rfl (y_loadBox1 (kk := 1602) s rfl rfl rfl underlying27 rfl) fun a s => ?_
    refine qq s rfl (y_lenSlice s rfl underlying27) fun a s => ?_
    refine qq s rfl (y_eqlN (i := ((x35.Supers).length)) (j := 0) s rfl rfl) fun a s => ?_
    apply wN
    obtain ⟨k41, hg, hk41⟩ := jn_some hg
    refine c_post (fun a w => ∃ (t_42 : (List (List UInt8))) (A43 : Option Addr) (c44 : Nat) (cs45 : List Value), k41 t_42 = some r ∧ St (⟨Try.f34.ntmps, M, noB, w0⟩ : Ctx) [(3, .map (some b2)), (4, .map (some b4)), (5, sl A43 t_42 c44), (7, vP b40 0), (18, sl Ap01 t_ cp01), (19, vI ((((t_).length : Nat) : Int))), (20, vI (((t_22 : Nat) : Int)))] [(1102, Ob.smap b2 (mset (kv15) (x35.Name) (vI ((((x35.Supers).length : Nat) : Int))))), (1200, Ob.mrows b4 9 1 (kv17) none), (1602, Ob.box b40 [vT x35.Name, sl Aq392 x35.Supers cq392, sl Aq393 x35.Feats cq393] 40), (700124, Ob.row (A43) ((t_42).length) (c44) 9 1 (cs45))] [(101, sF RTypeDecl Ap01 cp01 t_), (111, rowsF Rep.str (kv17) (t_16)), (120, sF Rep.str Aq392 cq392 x35.Supers), (121, sF RFeatDecl Aq393 cq393 x35.Feats), (123, kvF (Rep.num .i64) (mset (kv15) (x35.Name) (vI ((((x35.Supers).length : Nat) : Int)))) (mset (t_14) (x35.Name) ((((x35.Supers).length : Nat) : Int)))), (125, rdF Rep.str (cs45) (t_42))] a w) ?_ ?_
    ·refine c_dec s rfl (fun hc46 => ?_) (fun hc46 => ?_)
     ·replace hg := br_t hg hc46
      obtain ⟨hk48, hg⟩ := chk_some hg
      apply wL
      refine mv s rfl rfl fun a s => ?_
      refine qq s rfl (y_boxField (o' := 0) s rfl underlying40 rfl rfl rfl) fun a s => ?_
      refine qq s rfl (y_loadBox1 (kk := 1602) s rfl rfl rfl underlying9 rfl) fun a s => ?_
      refine l_seq rfl (l_buildDense (sz := 1) s 1903 rfl rfl rfl underlying27 rfl rfl rfl rfl rfl rfl rfl fun b51 a w hbb51 hK s => ?_)
      clear hbb51
      replace s := s.add 128 (rdF Rep.str (cellsOfL [vT x35.Name]) ([x35.Name])) (RdAll.cons (by exact ⟨rfl, (by omega)⟩) (RdAll.nil _ _ _))
      have hs53 := row_src (s.wd.holds 1903 _ rfl) (RdAll.one (s.ft 128 rfl))
      refine l_seq rfl (l_append (sz := 1) (by_ := 16) (N := (t_18 ++ [x35.Name]).length) s 700112 rfl rfl rfl underlying27 rfl rfl rfl rfl rfl hs53 (by rw [List.length_append]; try rfl) rfl (rmA hk48 rfl) (rmB hk48) rfl fun Aq52 cq52 a w hA hK s => ?_)
      replace s := s.add 129 (rdF Rep.str (cs21 ++ (cellsOfL [vT x35.Name])) (t_18 ++ [x35.Name])) (RdAll.append (s.ft 113 rfl) (s.ft 128 rfl))
      refine asg s rfl rfl fun a s => ?_
      apply wN
      replace s := s.al 125 129 rfl
      replace s := s.pk [(1102, 1102), (1200, 1200), (1602, 1602), (1903, 1903), (700124, 700112)] (by decide)
      exact ⟨(t_18 ++ [x35.Name]), (Aq52), (cq52), (cs21 ++ (cellsOfL [vT x35.Name])), hg, (s.sb rfl rfl rfl)⟩
     replace hg := br_f hg hc46
     apply wp_skip
     apply pN
     replace s := s.al 125 113 rfl
     replace s := s.pk [(1102, 1102), (1200, 1200), (1602, 1602), (700124, 700112)] (by decide)
     exact ⟨(t_18), (A19), (c20), (cs21), hg, (s.sb rfl rfl rfl)⟩
    clear s a; rintro a w ⟨t_42, A43, c44, cs45, hg, s⟩
    subst hk41
    apply wR
    refine qq s rfl (y_boxField (o' := 1) s rfl underlying40 rfl rfl rfl) fun a s => ?_
    refine qq s rfl (y_loadBox1 (kk := 1602) s rfl rfl rfl underlying27 rfl) fun a s => ?_
    refine qq s rfl (y_lenSlice s rfl underlying27) fun a s => ?_
    refine mv s rfl rfl fun a s => ?_
    apply wN
    apply wp_block
    replace s := s.al 130 111 rfl
    refine c_loop (σ := Nat) (fun m2 a w => ∃ (t_54 : (List (List UInt8 × (List (List UInt8))))), ∃ (t_56 : Nat) (kv55 : List (List UInt8 × Rw)), poset_ordered_L1 n t_14 k25 x35 t_42 m2 t_54 t_56 = some r ∧ St (⟨Try.f34.ntmps, M, noB, w0⟩ : Ctx) [(3, .map (some b2)), (4, .map (some b4)), (5, sl A43 t_42 c44), (7, vP b40 0), (18, sl Ap01 t_ cp01), (19, vI ((((t_).length : Nat) : Int))), (20, vI (((t_22 : Nat) : Int))), (40, sl Aq392 x35.Supers cq392), (41, vI ((((x35.Supers).length : Nat) : Int))), (42, vI (((t_56 : Nat) : Int)))] [(1102, Ob.smap b2 (mset (kv15) (x35.Name) (vI ((((x35.Supers).length : Nat) : Int))))), (1200, Ob.mrows b4 9 1 (kv55) none), (1602, Ob.box b40 [vT x35.Name, sl Aq392 x35.Supers cq392, sl Aq393 x35.Feats cq393] 40), (700124, Ob.row (A43) ((t_42).length) (c44) 9 1 (cs45))] [(101, sF RTypeDecl Ap01 cp01 t_), (120, sF Rep.str Aq392 cq392 x35.Supers), (121, sF RFeatDecl Aq393 cq393 x35.Feats), (123, kvF (Rep.num .i64) (mset (kv15) (x35.Name) (vI ((((x35.Supers).length : Nat) : Int)))) (mset (t_14) (x35.Name) ((((x35.Supers).length : Nat) : Int)))), (125, rdF Rep.str (cs45) (t_42)), (130, rowsF Rep.str (kv55) (t_54))] a w) (fun m2 => m2) n ⟨(t_16), (0), (kv17), hg, (s.sb rfl rfl rfl)⟩ ?_
    clear s a; rintro m2 a w ⟨t_54, t_56, kv55, hg, s⟩
    rcases m2 with _ | m2
    ·rw [poset_ordered_L1] at hg; cases hg
    rw [poset_ordered_L1] at hg
    apply wR
    refine qq s rfl (y_lssN (i := t_56) (j := ((x35.Supers).length)) s rfl rfl) fun a s => ?_
    apply wN
    apply wQ
    refine c_dec s rfl (fun hc57 => ?_) (fun hc57 => ?_)
    ·replace hg := br_t hg hc57
     have hmx58 := SlR.mx (s.ft 120 rfl)
     apply wp_skip
     apply pN
     apply wQ
     apply wp_block
     apply wQ
     obtain ⟨x60, hx60, hg⟩ := bind_some hg
     apply wL
     obtain ⟨p62, hep62, hpp62⟩ := SlR.elemX (s.ft 120 rfl) hx60
     refine qq s rfl (y_elem (sz := 1) (i := t_56) s rfl rfl underlying27 rfl hep62 rfl (lt_of_get hx60)) fun a s => ?_
     obtain ⟨hlq63, hmq63, csq63, hdq63, hcq63⟩ := hpp62
     obtain ⟨rfl, lq631⟩ := hdq63
     refine qq s rfl (y_ldp1 s rfl hlq63 hmq63 (hcq63 0 _ rfl) underlying9 rfl) fun a s => ?_
     refine asg s rfl rfl fun a s => ?_
     apply wN
     obtain ⟨hk66, hg⟩ := chk_some hg
     apply wL
     refine mv s rfl rfl fun a s => ?_
     refine mv s rfl rfl fun a s => ?_
     refine mv s rfl rfl fun a s => ?_
     refine mv s rfl rfl fun a s => ?_
     obtain ⟨At69, ct69, cst69, hvt69, hrt69, hS'⟩ := s.takeRowX (R := Rep.str) (kk := 1200) (kr := 400136) x60 rfl rfl (s.ft 130 rfl) rfl; clear s; have s := hS'; clear hS'
     replace s := s.add 137 (rdF Rep.str cst69 ((mget t_54 x60).getD [])) hrt69
     refine qq s rfl (y_lookupRowsV (kk := 1200) s rfl rfl rfl underlying49 underlying9 rfl hvt69) fun a s => ?_
     refine qq s rfl (y_boxField (o' := 0) s rfl underlying40 rfl rfl rfl) fun a s => ?_
     refine qq s rfl (y_loadBox1 (kk := 1602) s rfl rfl rfl underlying9 rfl) fun a s => ?_
     refine l_seq rfl (l_buildDense (sz := 1) s 2307 rfl rfl rfl underlying27 rfl rfl rfl rfl rfl rfl rfl fun b70 a w hbb70 hK s => ?_)
     clear hbb70
     replace s := s.add 138 (rdF Rep.str (cellsOfL [vT x35.Name]) ([x35.Name])) (RdAll.cons (by exact ⟨rfl, (by omega)⟩) (RdAll.nil _ _ _))
     have hs72 := row_src (s.wd.holds 2307 _ rfl) (RdAll.one (s.ft 138 rfl))
     refine l_seq rfl (l_append (sz := 1) (by_ := 16) (N := (((mget t_54 x60).getD []) ++ [x35.Name]).length) s 400136 rfl rfl rfl underlying27 rfl rfl rfl rfl rfl hs72 (by rw [List.length_append]; try rfl) rfl (rmA hk66 rfl) (rmB hk66) rfl fun Aq71 cq71 a w hA hK s => ?_)
     replace s := s.add 139 (rdF Rep.str (cst69 ++ (cellsOfL [vT x35.Name])) (((mget t_54 x60).getD []) ++ [x35.Name])) (RdAll.append (s.ft 137 rfl) (s.ft 138 rfl))
     refine l_seq rfl (l_putRow (r := ⟨Aq71, (((mget t_54 x60).getD []) ++ [x35.Name]).length, cq71, cst69 ++ (cellsOfL [vT x35.Name])⟩) (L' := [(1102, Ob.smap b2 (mset (kv15) (x35.Name) (vI ((((x35.Supers).length : Nat) : Int))))), (1200, Ob.mrows b4 9 1 (kv55) (some (x60))), (1602, Ob.box b40 [vT x35.Name, sl Aq392 x35.Supers cq392, sl Aq393 x35.Feats cq393] 40), (2307, Ob.row (some ⟨b70, 0, none⟩) (1) (1) 9 1 (cellsOfL [vT x35.Name])), (700124, Ob.row (A43) ((t_42).length) (c44) 9 1 (cs45))]) s 1200 400136 rfl rfl rfl rfl rfl rfl ⟨rfl, rfl, rfl, rfl, rfl, trivial⟩ rfl underlying49 underlying9 fun w hK s => ?_)
     replace s := s.add 140 (rowsF Rep.str (mset (kv55) (x60) ⟨Aq71, (((mget t_54 x60).getD []) ++ [x35.Name]).length, cq71, cst69 ++ (cellsOfL [vT x35.Name])⟩) (mset (t_54) (x60) (((mget t_54 x60).getD []) ++ [x35.Name]))) (rowsF_set (r := ⟨Aq71, (((mget t_54 x60).getD []) ++ [x35.Name]).length, cq71, cst69 ++ (cellsOfL [vT x35.Name])⟩) (s.ft 130 rfl) (s.ft 139 rfl))
     apply wO
     refine p_inN ?_
     apply pN
     apply wL
     refine qq s rfl (y_addN (i := t_56) (j := 1) s rfl rfl (in64.2 (by omega))) fun a s => ?_
     refine mv s rfl rfl fun a s => ?_
     apply wN
     replace s := s.al 130 140 rfl
     exact ⟨m2, Nat.lt_succ_self _, ⟨(mset (t_54) (x60) (((mget t_54 x60).getD []) ++ [x35.Name])), (t_56 + 1), (mset (kv55) (x60) ⟨Aq71, (((mget t_54 x60).getD []) ++ [x35.Name]).length, cq71, cst69 ++ (cellsOfL [vT x35.Name])⟩), hg, (s.sb rfl rfl rfl)⟩⟩
    replace hg := br_f hg hc57
    apply wp_exit
    refine p_then ?_
    refine p_then ?_
    refine p_in ?_
    refine p_inN ?_
    apply pN
    replace s := s.al 114 123 rfl
    replace s := s.al 115 130 rfl
    replace s := s.al 117 125 rfl
    replace s := s.pk [(1102, 1102), (1200, 1200), (1602, 1602), (700116, 700124)] (by decide)
    exact ⟨(mset (t_14) (x35.Name) ((((x35.Supers).length : Nat) : Int))), (t_54), (t_42), (mset (kv15) (x35.Name) (vI ((((x35.Supers).length : Nat) : Int)))), (kv55), (A43), (c44), (cs45), hg, (s.sb rfl rfl rfl)⟩
   clear s a; rintro a w ⟨t_26, t_28, t_30, kv27, kv29, A31, c32, cs33, hg, s⟩
   subst hk25
   apply wL
   refine qq s rfl (y_addN (i := t_22) (j := 1) s rfl rfl (in64.2 (by omega))) fun a s => ?_
   refine mv s rfl rfl fun a s => ?_
   apply wN
   replace s := s.al 110 114 rfl
   replace s := s.al 111 115 rfl
   replace s := s.al 113 117 rfl
   replace s := s.pk [(1102, 1102), (1200, 1200), (700112, 700116)] (by decide)
   exact ⟨m1, Nat.lt_succ_self _, ⟨(t_26), (t_28), (t_30), (t_22 + 1), (kv27), (kv29), (A31), (c32), (cs33), hg, (s.sb rfl rfl rfl)⟩⟩
  replace hg := br_f hg hc23
  apply wp_exit
  refine p_then ?_
  refine p_then ?_
  refine p_in ?_
  apply pN
  replace s := s.al 106 110 rfl
  replace s := s.al 107 111 rfl
  replace s := s.al 109 113 rfl
  replace s := s.pk [(1102, 1102), (1200, 1200), (700108, 700112)] (by decide)
  exact ⟨(t_14), (t_16), (t_18), (kv15), (kv17), (A19), (c20), (cs21), hg, (s.sb rfl rfl rfl)⟩
 clear s a; rintro a w ⟨t_6, t_8, t_10, kv7, kv9, A11, c12, cs13, hg, s⟩
 subst hk5
 apply wR
 refine asg s rfl rfl fun a s => ?_
 apply wN
 apply wQ
 apply wp_block
 replace s := s.freezeRows (R := Rep.str) (L' := [(1102, Ob.smap b2 (kv7)), (700108, Ob.row (A11) ((t_10).length) (c12) 9 1 (cs13))]) 141 1200 rfl (s.ft 107 rfl) rfl ⟨rfl, rfl, trivial⟩ rfl
 replace s := s.al 142 106 rfl
 replace s := s.al 144 109 rfl
 replace s := s.pk [(1102, 1102), (700143, 700108)] (by decide)
 replace s := s.nilRow 700145 9 1 rfl
 replace s := s.add 146 (rdF Rep.str [] []) (RdAll.nil _ _ _)
 refine c_loop (σ := Nat) (fun m3 a w => ∃ (t_73 : (List (List UInt8 × Int))) (t_75 : (List (List UInt8))) (t_79 : (List (List UInt8))) (kv74 : List (List UInt8 × Value)) (A76 : Option Addr) (c77 : Nat) (cs78 : List Value) (A80 : Option Addr) (c81 : Nat) (cs82 : List Value), poset_ordered_L2 n t_8 m3 t_73 t_75 t_79 = some r ∧ St (⟨Try.f34.ntmps, M, noB, w0⟩ : Ctx) [(3, .map (some b2)), (4, .map (some b4)), (5, sl A76 t_75 c77), (10, sl A80 t_79 c81)] [(1102, Ob.smap b2 (kv74)), (700143, Ob.row (A76) ((t_75).length) (c77) 9 1 (cs78)), (700145, Ob.row (A80) ((t_79).length) (c81) 9 1 (cs82))] [(141, mapRF (Rep.list Rep.str) b4 (t_8)), (142, kvF (Rep.num .i64) (kv74) (t_73)), (144, rdF Rep.str (cs78) (t_75)), (146, rdF Rep.str (cs82) (t_79))] a w) (fun m3 => m3) n ⟨(t_6), (t_10), ([]), (kv7), (A11), (c12), (cs13), (none), (0), ([]), hg, (s.sb rfl rfl rfl)⟩ ?_
 clear s a; rintro m3 a w ⟨t_73, t_75, t_79, kv74, A76, c77, cs78, A80, c81, cs82, hg, s⟩
 rcases m3 with _ | m3
 ·rw [poset_ordered_L2] at hg; cases hg
 rw [poset_ordered_L2] at hg
 apply wQ
 apply wR
 refine mv s rfl rfl fun a s => ?_
 refine qq s rfl (y_lenSlice s rfl underlying27) fun a s => ?_
 refine qq s rfl (y_gtrN (i := ((t_75).length)) (j := 0) s rfl rfl) fun a s => ?_
 apply wN
 refine c_dec s rfl (fun hc83 => ?_) (fun hc83 => ?_)
 ·replace hg := br_t hg hc83
  have hmx84 := row_mx (s.wd.holds 700143 _ rfl)
  apply wp_skip
  apply pN
  obtain ⟨k85, hg, hk85⟩ := jn_some hg
  refine c_post (fun a w => ∃ (t_86 : (List (List UInt8 × Int))) (t_88 : (List (List UInt8))) (t_92 : (List (List UInt8))) (kv87 : List (List UInt8 × Value)) (A89 : Option Addr) (c90 : Nat) (cs91 : List Value) (A93 : Option Addr) (c94 : Nat) (cs95 : List Value), k85 t_86 t_88 t_92 = some r ∧ St (⟨Try.f34.ntmps, M, noB, w0⟩ : Ctx) [(3, .map (some b2)), (4, .map (some b4)), (5, sl A89 t_88 c90), (10, sl A93 t_92 c94)] [(1102, Ob.smap b2 (kv87)), (700148, Ob.row (A89) ((t_88).length) (c90) 9 1 (cs91)), (700150, Ob.row (A93) ((t_92).length) (c94) 9 1 (cs95))] [(141, mapRF (Rep.list Rep.str) b4 (t_8)), (147, kvF (Rep.num .i64) (kv87) (t_86)), (149, rdF Rep.str (cs91) (t_88)), (151, rdF Rep.str (cs95) (t_92))] a w) ?_ ?_
  ·apply wp_block
   apply wQ
   obtain ⟨r96, hr96, hg⟩ := bind_some hg
   apply wL
   refine mv s rfl rfl fun a s => ?_
   have hT := s
   replace hT := hT.fz (R := Rep.str) (kk := 700143) [1102, 700145] 153 rfl rfl (hT.ft 144 rfl) rfl
   refine lc s rfl func53 (by kernel_rfl) (c_slices_Min_string n _ _ hT.lt _ _ _ (hT.ft 153 rfl) _ hr96) fun v100 a w hK hp s => ?_
   obtain ⟨rfl, lu101a1⟩ := hp
   refine l_seq rfl (l_alloc (zs := [vT ([])]) s 2802 rfl rfl rfl rfl fun b102 a w hb hK s => ?_)
   refine l_seq rfl (l_store (n := 1) (cs' := [vT r96]) s 2802 rfl rfl rfl rfl rfl rfl rfl rfl ?_); clear s; intro w hK s; clear hK
   apply wN
   apply wQ
   obtain ⟨r103, hr103, hg⟩ := bind_some hg
   apply wL
   refine mv s rfl rfl fun a s => ?_
   replace s := s.freezeBox (L' := [(1102, Ob.smap b2 (kv74)), (700143, Ob.row (A76) ((t_75).length) (c77) 9 1 (cs78)), (700145, Ob.row (A80) ((t_79).length) (c81) 9 1 (cs82))]) 156 2802 rfl ⟨rfl, rfl, rfl, trivial⟩ rfl
   refine qq s rfl (y_makeFunc (xs := [.tmp 11]) (vs := [vP b102 0]) s rfl) fun a s => ?_
   have hT := s.pk [(1102, 1102), (700145, 700145), (9200000, 700143)] (by decide)
   replace hT := hT.al 9300000 144 rfl
   replace hT := hT.add 9400000 (fnF Try.prog 54 [vP b102 0] pre53 post53 ((fun p => poset_ordered_1 n p r96))) ⟨⟨_, _, func54, rfl, by kernel_rfl⟩, fun M1 w1 hk hm hlt vs x r hp hr => by obtain ⟨rfl, la1⟩ := hp; exact c_poset_ordered_1 n M1 w1 hlt (x) la1 b102 (r96) (by omega) (Fact.move (boxF b102 [vT r96] 9) hk hm (hT.ft 156 rfl)) r hr⟩
   refine l_seq rfl (l_callMut (cap := []) hT _ [] (sbA (by rfl)) trivial (by rfl) rfl func48 rfl (by kernel_rfl) rfl rfl (c_slices_DeleteFunc_string n _ _ (hT.restLt [1102, 700145]) _ t_75 (A76) (c77) (cs78) (fun p => poset_ordered_1 n p r96) (54) ([vP b102 0]) (hT.wd.lendL _ _ _ (sbA (by rfl)) (keep_sub [1102, 700145]) (by rfl) (sbA (by rfl))) r103 hr103) ?_); intro v106 a' w' hK hp hF
   obtain ⟨Aou107, cou107, csou107, rfl, hWu107⟩ := hp
   have hS2 := St.mk hF (hT.wd.back (sbA (by rfl)) (keep_sub [1102, 700145]) (by rfl) hWu107 (by rfl))
   clear s hT hF hWu107 hK; revert hS2; revert w'; revert a'; intro a w s
   replace s := s.al 157 9300000 rfl
   replace s := s.ren [(1102, Ob.smap b2 (kv74)), (700143, Ob.row (Aou107) ((r103).length) (cou107) 9 1 (csou107)), (700145, Ob.row (A80) ((t_79).length) (c81) 9 1 (cs82))] [1102, 9200000, 700145] ⟨rfl, rfl, rfl, trivial⟩ (by decide)
   refine asg s rfl rfl fun a s => ?_
   apply wN
   apply wQ
   obtain ⟨hk109, hg⟩ := chk_some hg
   apply wL
   refine mv s rfl rfl fun a s => ?_
   refine qq s rfl (y_loadF1 s rfl (s.ft 156 rfl) rfl underlying9 rfl) fun a s => ?_
   refine l_seq rfl (l_buildDense (sz := 1) s 3002 rfl rfl rfl underlying27 rfl rfl rfl rfl rfl rfl rfl fun b112 a w hbb112 hK s => ?_)
   clear hbb112
   replace s := s.add 160 (rdF Rep.str (cellsOfL [vT r96]) ([r96])) (RdAll.cons (by exact ⟨rfl, (by omega)⟩) (RdAll.nil _ _ _))
   have hs114 := row_src (s.wd.holds 3002 _ rfl) (RdAll.one (s.ft 160 rfl))
   refine l_seq rfl (l_append (sz := 1) (by_ := 16) (N := (t_79 ++ [r96]).length) s 700145 rfl rfl rfl underlying27 rfl rfl rfl rfl rfl hs114 (by rw [List.length_append]; try rfl) rfl (rmA hk109 rfl) (rmB hk109) rfl fun Aq113 cq113 a w hA hK s => ?_)
   replace s := s.add 161 (rdF Rep.str (cs82 ++ (cellsOfL [vT r96])) (t_79 ++ [r96])) (RdAll.append (s.ft 146 rfl) (s.ft 160 rfl))
   refine asg s rfl rfl fun a s => ?_
   apply wN
   apply wR
   refine mv s rfl rfl fun a s => ?_
   refine qq s rfl (y_loadF1 s rfl (s.ft 156 rfl) rfl underlying9 rfl) fun a s => ?_
   obtain ⟨kvm116, hmm116, hfm116⟩ := mapRF_open (s.ft 141 rfl)
   have hm116 := kvF_getD (R := (Rep.list Rep.str)) (k := r96) (z := .slice none 0 0) (zx := []) hfm116 (by exact ⟨_, _, _, rfl, (SlR.nil_ _ _ _)⟩)
   obtain ⟨Am1161, nnm116, cm1161, em116, hm1161⟩ := hm116
   obtain rfl := hm1161.len
   replace s := s.ns 163 hm1161
   refine qq s rfl (y_lookupFV s rfl rfl hmm116 underlying49 underlying9 rfl em116) fun a s => ?_
   refine qq s rfl (y_lenSlice s rfl underlying27) fun a s => ?_
   refine mv s rfl rfl fun a s => ?_
   apply wN
   apply wp_block
   replace s := s.al 164 142 rfl
   replace s := s.al 166 157 rfl
   replace s := s.pk [(1102, 1102), (3002, 3002), (700145, 700145), (700165, 700143)] (by decide)
   refine c_loop (σ := Nat) (fun m4 a w => ∃ (t_117 : (List (List UInt8 × Int))) (t_119 : (List (List UInt8))) (t_123 : Nat) (kv118 : List (List UInt8 × Value)) (A120 : Option Addr) (c121 : Nat) (cs122 : List Value), poset_ordered_L3 n t_8 t_79 k85 r96 m4 t_117 t_119 t_123 = some r ∧ St (⟨Try.f34.ntmps, M, noB, w0⟩ : Ctx) [(3, .map (some b2)), (4, .map (some b4)), (5, sl A120 t_119 c121), (10, sl Aq113 (t_79 ++ [r96]) cq113), (71, sl Am1161 (((mget t_8 r96).getD [])) cm1161), (72, vI ((((((mget t_8 r96).getD [])).length : Nat) : Int))), (73, vI (((t_123 : Nat) : Int)))] [(1102, Ob.smap b2 (kv118)), (700145, Ob.row (Aq113) ((t_79 ++ [r96]).length) (cq113) 9 1 (cs82 ++ (cellsOfL [vT r96]))), (700165, Ob.row (A120) ((t_119).length) (c121) 9 1 (cs122))] [(141, mapRF (Rep.list Rep.str) b4 (t_8)), (161, rdF Rep.str (cs82 ++ (cellsOfL [vT r96])) (t_79 ++ [r96])), (163, sF Rep.str Am1161 cm1161 (((mget t_8 r96).getD []))), (164, kvF (Rep.num .i64) (kv118) (t_117)), (166, rdF Rep.str (cs122) (t_119))] a w) (fun m4 => m4) n ⟨(t_73), (r103), (0), (kv74), (Aou107), (cou107), (csou107), hg, (s.sb rfl rfl rfl)⟩ ?_
   clear s a; rintro m4 a w ⟨t_117, t_119, t_123, kv118, A120, c121, cs122, hg, s⟩
   rcases m4 with _ | m4
   ·rw [poset_ordered_L3] at hg; cases hg
   rw [poset_ordered_L3] at hg
   apply wR
   refine qq s rfl (y_lssN (i := t_123) (j := ((((mget t_8 r96).getD [])).length)) s rfl rfl) fun a s => ?_
   apply wN
   apply wQ
   refine c_dec s rfl (fun hc124 => ?_) (fun hc124 => ?_)
   ·replace hg := br_t hg hc124
    have hmx125 := SlR.mx (s.ft 163 rfl)
    apply wp_skip
    apply pN
    apply wQ
    apply wp_block
    apply wQ
    obtain ⟨x127, hx127, hg⟩ := bind_some hg
    apply wL
    obtain ⟨p129, hep129, hpp129⟩ := SlR.elemX (s.ft 163 rfl) hx127
    refine qq s rfl (y_elem (sz := 1) (i := t_123) s rfl rfl underlying27 rfl hep129 rfl (lt_of_get hx127)) fun a s => ?_
    obtain ⟨hlq130, hmq130, csq130, hdq130, hcq130⟩ := hpp129
    obtain ⟨rfl, lq1301⟩ := hdq130
    refine qq s rfl (y_ldp1 s rfl hlq130 hmq130 (hcq130 0 _ rfl) underlying9 rfl) fun a s => ?_
    refine asg s rfl rfl fun a s => ?_
    apply wN
    apply wQ
    obtain ⟨hk132, hg⟩ := chk_some hg
    apply wL
    refine mv s rfl rfl fun a s => ?_
    refine mv s rfl rfl fun a s => ?_
    have hm133 := kvF_getD (R := (Rep.num .i64)) (k := x127) (z := vI 0) (zx := 0) (s.ft 164 rfl) (by exact rfl)
    have em133 := hm133
    refine qq s rfl (y_lookupV (kk := 1102) s rfl rfl rfl underlying60 underlying9 rfl em133) fun a s => ?_
    refine qq s rfl (y_sub s rfl rfl (in64.2 hk132)) fun a s => ?_
    refine l_seq rfl (l_mapUpdate s 1102 rfl rfl rfl rfl underlying60 underlying9 fun w hK s => ?_)
    replace s := s.add 168 (kvF (Rep.num .i64) (mset (kv118) (x127) (vI (((mget t_117 x127).getD 0) - 1))) (mset (t_117) (x127) (((mget t_117 x127).getD 0) - 1))) (kvF_set (s.ft 164 rfl) (by exact rfl))
    apply wN
    apply wR
    refine mv s rfl rfl fun a s => ?_
    refine mv s rfl rfl fun a s => ?_
    have hm135 := kvF_getD (R := (Rep.num .i64)) (k := x127) (z := vI 0) (zx := 0) (s.ft 168 rfl) (by exact rfl)
    have em135 := hm135
    refine qq s rfl (y_lookupV (kk := 1102) s rfl rfl rfl underlying60 underlying9 rfl em135) fun a s => ?_
    refine qq s rfl (y_eql s rfl rfl) fun a s => ?_
    apply wN
    refine c_dec s rfl (fun hc136 => ?_) (fun hc136 => ?_)
    ·replace hg := br_t hg hc136
     obtain ⟨hk138, hg⟩ := chk_some hg
     apply wL
     refine mv s rfl rfl fun a s => ?_
     refine mv s rfl rfl fun a s => ?_
     refine l_seq rfl (l_buildDense (sz := 1) s 3602 rfl rfl rfl underlying27 rfl rfl rfl rfl rfl rfl rfl fun b141 a w hbb141 hK s => ?_)
     clear hbb141
     replace s := s.add 171 (rdF Rep.str (cellsOfL [vT x127]) ([x127])) (RdAll.cons (by exact ⟨rfl, (by omega)⟩) (RdAll.nil _ _ _))
     have hs143 := row_src (s.wd.holds 3602 _ rfl) (RdAll.one (s.ft 171 rfl))
     refine l_seq rfl (l_append (sz := 1) (by_ := 16) (N := (t_119 ++ [x127]).length) s 700165 rfl rfl rfl underlying27 rfl rfl rfl rfl rfl hs143 (by rw [List.length_append]; try rfl) rfl (rmA hk138 rfl) (rmB hk138) rfl fun Aq142 cq142 a w hA hK s => ?_)
     replace s := s.add 172 (rdF Rep.str (cs122 ++ (cellsOfL [vT x127])) (t_119 ++ [x127])) (RdAll.append (s.ft 166 rfl) (s.ft 171 rfl))
     refine asg s rfl rfl fun a s => ?_
     apply wO
     refine p_inN ?_
     apply pN
     apply wL
     refine qq s rfl (y_addN (i := t_123) (j := 1) s rfl rfl (in64.2 (by omega))) fun a s => ?_
     refine mv s rfl rfl fun a s => ?_
     apply wN
     replace s := s.al 164 168 rfl
     replace s := s.al 166 172 rfl
     exact ⟨m4, Nat.lt_succ_self _, ⟨(mset (t_117) (x127) (((mget t_117 x127).getD 0) - 1)), (t_119 ++ [x127]), (t_123 + 1), (mset (kv118) (x127) (vI (((mget t_117 x127).getD 0) - 1))), (Aq142), (cq142), (cs122 ++ (cellsOfL [vT x127])), hg, (s.sb rfl rfl rfl)⟩⟩
    replace hg := br_f hg hc136
    apply wp_skip
    refine p_inN ?_
    apply pN
    apply wL
    refine qq s rfl (y_addN (i := t_123) (j := 1) s rfl rfl (in64.2 (by omega))) fun a s => ?_
    refine mv s rfl rfl fun a s => ?_
    apply wN
    replace s := s.al 164 168 rfl
    replace s := s.al 166 166 rfl
    exact ⟨m4, Nat.lt_succ_self _, ⟨(mset (t_117) (x127) (((mget t_117 x127).getD 0) - 1)), (t_119), (t_123 + 1), (mset (kv118) (x127) (vI (((mget t_117 x127).getD 0) - 1))), (A120), (c121), (cs122), hg, (s.sb rfl rfl rfl)⟩⟩
   replace hg := br_f hg hc124
   apply wp_exit
   refine p_then ?_
   refine p_then ?_
   refine p_in ?_
   refine p_inN ?_
   apply pN
   replace s := s.al 147 164 rfl
   replace s := s.al 149 166 rfl
   replace s := s.al 151 161 rfl
   replace s := s.pk [(1102, 1102), (700148, 700165), (700150, 700145)] (by decide)
   exact ⟨(t_117), (t_119), (t_79 ++ [r96]), (kv118), (A120), (c121), (cs122), (Aq113), (cq113), (cs82 ++ (cellsOfL [vT r96])), hg, (s.sb rfl rfl rfl)⟩
  clear s a; rintro a w ⟨t_86, t_88, t_92, kv87, A89, c90, cs91, A93, c94, cs95, hg, s⟩
  subst hk85
  replace s := s.al 142 147 rfl
  replace s := s.al 144 149 rfl
  replace s := s.al 146 151 rfl
  replace s := s.pk [(1102, 1102), (700143, 700148), (700145, 700150)] (by decide)
  exact ⟨m3, Nat.lt_succ_self _, ⟨(t_86), (t_88), (t_92), (kv87), (A89), (c90), (cs91), (A93), (c94), (cs95), hg, (s.sb rfl rfl rfl)⟩⟩
 replace hg := br_f hg hc83
 apply wp_exit
 refine p_then ?_
 refine p_then ?_
 refine p_in ?_
 apply pN
 apply wR
 refine mv s rfl rfl fun a s => ?_
 refine asg s rfl rfl fun a s => ?_
 apply wN
 apply wp_ret
 obtain rfl := Option.some.inj hg
 refine fin1 (fn := Try.f34) s rfl (r_tmp s rfl) ?_
 exact ⟨(A80), (c81), rfl, (s.rowOut (R := Rep.str) (kk := 700145) rfl rfl (s.ft 146 rfl))⟩
set_option maxHeartbeats 1000000 in
theorem c_poset_Check (n : Nat) (M : Bs) (w0 : World) (hM : ∀ b, M b → b < w0.heap.size) (d_ : (List TypeDecl)) (Ap01 : Option Addr) (cp01 : Nat) (hp01 : SlR RTypeDecl M w0 Ap01 (d_).length cp01 (d_)) (r : Int) (hg : poset_Check n d_ = some r) :
    Calls Try.prog 13 [.slice (Ap01) ((d_).length) (cp01)].toArray w0 (Ret noB w0 fun v w => v = .int .i64 (r)) := by
 unfold poset_Check at hg
 refine enter M noB func13 rfl rfl hM ?_
 intro a s
 replace s := s.es 101 hp01
 apply wR
 refine asg s rfl rfl fun a s => ?_
 apply wN
 apply wQ
 apply wQ
 obtain ⟨r1, hr1, hg⟩ := bind_some hg
 apply wL
 refine mv s rfl rfl fun a s => ?_
 refine lc s rfl func31 (by kernel_rfl) (c_poset_long n _ _ s.lt _ _ _ (s.ft 101 rfl) _ hr1) fun v4 a w hK hp s => ?_
 obtain rfl := hp
 apply wN
 refine c_cond s rfl (fun hc6 => ?_) (fun hc6 => ?_)
 ·replace hg := br_t hg hc6
  apply wR
  refine asg s rfl rfl fun a s => ?_
  apply wN
  apply wp_ret
  refine p_thenR ?_
  obtain rfl := Option.some.inj hg
  refine fin1 (fn := Try.f13) s rfl (r_tmp s rfl) ?_
  exact rfl
 replace hg := br_n hg hc6
 apply wp_skip
 apply pN
 apply wQ
 apply wQ
 obtain ⟨r7, hr7, hg⟩ := bind_some hg
 apply wL
 refine mv s rfl rfl fun a s => ?_
 refine lc s rfl func32 (by kernel_rfl) (c_poset_names n _ _ s.lt _ _ _ (s.ft 101 rfl) _ hr7) fun v10 a w hK hp s => ?_
 obtain rfl := hp
 refine asg s rfl rfl fun a s => ?_
 apply wN
 apply wR
 refine mv s rfl rfl fun a s => ?_
 refine qq s rfl (y_neq s rfl rfl) fun a s => ?_
 apply wN
 refine c_dec s rfl (fun hc12 => ?_) (fun hc12 => ?_)
 ·replace hg := br_t hg hc12
  apply wR
  refine mv s rfl rfl fun a s => ?_
  refine asg s rfl rfl fun a s => ?_
  apply wN
  apply wp_ret
  refine p_thenR ?_
  obtain rfl := Option.some.inj hg
  refine fin1 (fn := Try.f13) s rfl (r_tmp s rfl) ?_
  exact rfl
 replace hg := br_f hg hc12
 apply wp_skip
 apply pN
 apply wQ
 apply wQ
 obtain ⟨r13, hr13, hg⟩ := bind_some hg
 apply wL
 refine mv s rfl rfl fun a s => ?_
 refine lc s rfl func33 (by kernel_rfl) (c_poset_links n _ _ s.lt _ _ _ (s.ft 101 rfl) _ hr13) fun v16 a w hK hp s => ?_
 obtain rfl := hp
 refine asg s rfl rfl fun a s => ?_
 apply wN
 apply wR
 refine mv s rfl rfl fun a s => ?_
 refine qq s rfl (y_neq s rfl rfl) fun a s => ?_
 apply wN
 refine c_dec s rfl (fun hc18 => ?_) (fun hc18 => ?_)
 ·replace hg := br_t hg hc18
  apply wR
  refine mv s rfl rfl fun a s => ?_
  refine asg s rfl rfl fun a s => ?_
  apply wN
  apply wp_ret
  refine p_thenR ?_
  obtain rfl := Option.some.inj hg
  refine fin1 (fn := Try.f13) s rfl (r_tmp s rfl) ?_
  exact rfl
 replace hg := br_f hg hc18
 apply wp_skip
 apply pN
 apply wR
 refine asg s rfl rfl fun a s => ?_
 apply wN
 apply wQ
 apply wR
 refine mv s rfl rfl fun a s => ?_
 refine qq s rfl (y_lenSlice s rfl underlying22) fun a s => ?_
 refine mv s rfl rfl fun a s => ?_
 apply wN
 obtain ⟨k19, hg, hk19⟩ := jn_some hg
 refine c_post (fun a w => ∃ (tops_20 : Nat), k19 tops_20 = some r ∧ St (⟨Try.f13.ntmps, M, noB, w0⟩ : Ctx) [(0, sl Ap01 d_ cp01), (5, vI (((tops_20 : Nat) : Int)))] [] [(101, sF RTypeDecl Ap01 cp01 d_)] a w) ?_ ?_
 ·apply wp_block
  refine c_loop (σ := Nat) (fun m1 a w => ∃ (tops_21 : Nat) (t_22 : Nat), poset_Check_L0 n d_ k19 m1 tops_21 t_22 = some r ∧ St (⟨Try.f13.ntmps, M, noB, w0⟩ : Ctx) [(0, sl Ap01 d_ cp01), (5, vI (((tops_21 : Nat) : Int))), (20, sl Ap01 d_ cp01), (21, vI ((((d_).length : Nat) : Int))), (22, vI (((t_22 : Nat) : Int)))] [] [(101, sF RTypeDecl Ap01 cp01 d_)] a w) (fun m1 => m1) n ⟨(0), (0), hg, (s.sb rfl rfl rfl)⟩ ?_
  clear s a; rintro m1 a w ⟨tops_21, t_22, hg, s⟩
  rcases m1 with _ | m1
  ·rw [poset_Check_L0] at hg; cases hg
  rw [poset_Check_L0] at hg
  apply wR
  refine qq s rfl (y_lssN (i := t_22) (j := ((d_).length)) s rfl rfl) fun a s => ?_
  apply wN
  apply wQ
  refine c_dec s rfl (fun hc23 => ?_) (fun hc23 => ?_)
  ·replace hg := br_t hg hc23
   have hmx24 := SlR.mx (s.ft 101 rfl)
   apply wp_skip
   apply pN
   apply wQ
   apply wp_block
   apply wQ
   obtain ⟨x26, hx26, hg⟩ := bind_some hg
   apply wL
   obtain ⟨p29, hep29, hpp29⟩ := SlR.elemX (s.ft 101 rfl) hx26
   refine qq s rfl (y_elem (sz := 3) (i := t_22) s rfl rfl underlying22 rfl hep29 rfl (lt_of_get hx26)) fun a s => ?_
   obtain ⟨hlq30, hmq30, csq30, hdq30, hcq30⟩ := hpp29
   obtain ⟨Aq302, cq302, Aq303, cq303, rfl, lq301, hq302, hq303⟩ := RTypeDecl.open hdq30
   replace s := s.ns 104 hq302
   replace s := s.ns 105 hq303
   refine qq s rfl (y_ldp s rfl hlq30 hmq30 (by simpa using hcq30) underlying40 rfl rfl) fun a s => ?_
   refine l_seq rfl (l_alloc (zs := [vT ([]), .slice none 0 0, .slice none 0 0]) s 2202 rfl rfl rfl rfl fun b31 a w hb hK s => ?_)
   refine l_seq rfl (l_store (n := 3) (cs' := [vT x26.Name, sl Aq302 x26.Supers cq302, sl Aq303 x26.Feats cq303]) s 2202 rfl rfl rfl rfl rfl rfl rfl rfl ?_); clear s; intro w hK s; clear hK
   apply wN
   apply wR
   refine qq s rfl (y_boxField (o' := 1) s rfl underlying40 rfl rfl rfl) fun a s => ?_
   refine qq s rfl (y_loadBox1 (kk := 2202) s rfl rfl rfl underlying27 rfl) fun a s => ?_
   refine qq s rfl (y_lenSlice s rfl underlying27) fun a s => ?_
   refine qq s rfl (y_eqlN (i := ((x26.Supers).length)) (j := 0) s rfl rfl) fun a s => ?_
   apply wN
   refine c_dec s rfl (fun hc32 => ?_) (fun hc32 => ?_)
   ·replace hg := br_t hg hc32
    obtain ⟨hk33, hg⟩ := chk_some hg
    apply wL
    refine mv s rfl rfl fun a s => ?_
    refine qq s rfl (y_addN (i := tops_21) (j := 1) s rfl rfl (in64.2 (by omega))) fun a s => ?_
    refine asg s rfl rfl fun a s => ?_
    apply wO
    refine p_inN ?_
    apply pN
    apply wL
    refine qq s rfl (y_addN (i := t_22) (j := 1) s rfl rfl (in64.2 (by omega))) fun a s => ?_
    refine mv s rfl rfl fun a s => ?_
    apply wN
    exact ⟨m1, Nat.lt_succ_self _, ⟨(tops_21 + 1), (t_22 + 1), hg, (s.sb rfl rfl rfl)⟩⟩
   replace hg := br_f hg hc32
   apply wp_skip
   refine p_inN ?_
   apply pN
   apply wL
   refine qq s rfl (y_addN (i := t_22) (j := 1) s rfl rfl (in64.2 (by omega))) fun a s => ?_
   refine mv s rfl rfl fun a s => ?_
   apply wN
   exact ⟨m1, Nat.lt_succ_self _, ⟨(tops_21), (t_22 + 1), hg, (s.sb rfl rfl rfl)⟩⟩
  replace hg := br_f hg hc23
  apply wp_exit
  refine p_then ?_
  refine p_then ?_
  refine p_in ?_
  apply pN
  exact ⟨(tops_21), hg, (s.sb rfl rfl rfl)⟩
 clear s a; rintro a w ⟨tops_20, hg, s⟩
 subst hk19
 apply wQ
 apply wR
 refine mv s rfl rfl fun a s => ?_
 refine qq s rfl (y_neqN (i := tops_20) (j := 1) s rfl rfl) fun a s => ?_
 apply wN
 refine c_dec s rfl (fun hc34 => ?_) (fun hc34 => ?_)
 ·replace hg := br_t hg hc34
  apply wR
  refine asg s rfl rfl fun a s => ?_
  apply wN
  apply wp_ret
  refine p_thenR ?_
  obtain rfl := Option.some.inj hg
  refine fin1 (fn := Try.f13) s rfl (r_tmp s rfl) ?_
  exact rfl
 replace hg := br_f hg hc34
 apply wp_skip
 apply pN
 apply wQ
 apply wQ
 obtain ⟨r35, hr35, hg⟩ := bind_some hg
 apply wL
 refine mv s rfl rfl fun a s => ?_
 refine lc s rfl func34 (by kernel_rfl) (c_poset_ordered n _ _ s.lt _ _ _ (s.ft 101 rfl) _ hr35) fun v38 a w hK hp s => ?_
 obtain ⟨Au39a1, cu39a1, rfl, hu39a1⟩ := hp
 replace s := s.ns 107 hu39a1
 refine qq s rfl (y_lenSlice s rfl underlying27) fun a s => ?_
 refine mv s rfl rfl fun a s => ?_
 refine qq s rfl (y_lenSlice s rfl underlying22) fun a s => ?_
 refine qq s rfl (y_lssN (i := ((r35).length)) (j := ((d_).length)) s rfl rfl) fun a s => ?_
 apply wN
 refine c_dec s rfl (fun hc40 => ?_) (fun hc40 => ?_)
 ·replace hg := br_t hg hc40
  have hmx41 := SlR.mx (s.ft 101 rfl)
  apply wR
  refine asg s rfl rfl fun a s => ?_
  apply wN
  apply wp_ret
  refine p_thenR ?_
  obtain rfl := Option.some.inj hg
  refine fin1 (fn := Try.f13) s rfl (r_tmp s rfl) ?_
  exact rfl
 replace hg := br_f hg hc40
 apply wp_skip
 apply pN
 apply wR
 refine asg s rfl rfl fun a s => ?_
 apply wN
 apply wp_ret
 obtain rfl := Option.some.inj hg
 refine fin1 (fn := Try.f13) s rfl (r_tmp s rfl) ?_
 exact rfl
set_option maxHeartbeats 1000000 in
theorem c_poset_Order (n : Nat) (M : Bs) (w0 : World) (hM : ∀ b, M b → b < w0.heap.size) (d_ : (List TypeDecl)) (Ap01 : Option Addr) (cp01 : Nat) (hp01 : SlR RTypeDecl M w0 Ap01 (d_).length cp01 (d_)) (r : ((List (List UInt8)) × Int)) (hg : poset_Order n d_ = some r) :
    Calls Try.prog 15 [.slice (Ap01) ((d_).length) (cp01)].toArray w0 (Ret noB w0 fun v w => ∃ (Aa1 : Option Addr), ∃ (ca1 : Nat), v = .tuple #[.slice (Aa1) ((r.1).length) (ca1), .int .i64 (r.2)] ∧ (SlR Rep.str M w Aa1 (r.1).length ca1 (r.1))) := by
 unfold poset_Order at hg
 refine enter M noB func15 rfl rfl hM ?_
 intro a s
 replace s := s.es 101 hp01
 apply wR
 refine asg s rfl rfl fun a s => ?_
 refine asg s rfl rfl fun a s => ?_
 apply wN
 apply wQ
 apply wQ
 obtain ⟨r1, hr1, hg⟩ := bind_some hg
 apply wL
 refine mv s rfl rfl fun a s => ?_
 refine lc s rfl func13 (by kernel_rfl) (c_poset_Check n _ _ s.lt _ _ _ (s.ft 101 rfl) _ hr1) fun v4 a w hK hp s => ?_
 obtain rfl := hp
 refine asg s rfl rfl fun a s => ?_
 apply wN
 apply wR
 refine mv s rfl rfl fun a s => ?_
 refine qq s rfl (y_neq s rfl rfl) fun a s => ?_
 apply wN
 refine c_dec s rfl (fun hc6 => ?_) (fun hc6 => ?_)
 ·replace hg := br_t hg hc6
  apply wR
  refine mv s rfl rfl fun a s => ?_
  refine asg s rfl rfl fun a s => ?_
  refine asg s rfl rfl fun a s => ?_
  apply wN
  apply wp_ret
  refine p_thenR ?_
  obtain rfl := Option.some.inj hg
  refine fin2 (fn := Try.f15) s rfl (r_tmp s rfl) (r_tmp s rfl) ?_
  exact ⟨(none), (0), rfl, (SlR.nil_ _ _ _)⟩
 replace hg := br_f hg hc6
 apply wp_skip
 apply pN
 apply wQ
 obtain ⟨r7, hr7, hg⟩ := bind_some hg
 apply wL
 refine mv s rfl rfl fun a s => ?_
 refine lc s rfl func34 (by kernel_rfl) (c_poset_ordered n _ _ s.lt _ _ _ (s.ft 101 rfl) _ hr7) fun v10 a w hK hp s => ?_
 obtain ⟨Au11a1, cu11a1, rfl, hu11a1⟩ := hp
 replace s := s.ns 103 hu11a1
 refine asg s rfl rfl fun a s => ?_
 refine asg s rfl rfl fun a s => ?_
 apply wN
 apply wp_ret
 obtain rfl := Option.some.inj hg
 refine fin2 (fn := Try.f15) s rfl (r_tmp s rfl) (r_tmp s rfl) ?_
 exact ⟨(Au11a1), (cu11a1), rfl, (s.out (k := 103) rfl)⟩
set_option maxHeartbeats 1000000 in
theorem c_r03_SameStrings (n : Nat) (M : Bs) (w0 : World) (hM : ∀ b, M b → b < w0.heap.size) (a_ : (List (List UInt8))) (Ap01 : Option Addr) (cp01 : Nat) (hp01 : SlR Rep.str M w0 Ap01 (a_).length cp01 (a_)) (b_ : (List (List UInt8))) (Ap11 : Option Addr) (cp11 : Nat) (hp11 : SlR Rep.str M w0 Ap11 (b_).length cp11 (b_)) (r : Bool) (hg : r03_SameStrings n a_ b_ = some r) :
    Calls Try.prog 17 [.slice (Ap01) ((a_).length) (cp01), .slice (Ap11) ((b_).length) (cp11)].toArray w0 (Ret noB w0 fun v w => v = .bool (r)) := by
 unfold r03_SameStrings at hg
 refine enter M noB func17 rfl rfl hM ?_
 intro a s
 replace s := s.es 101 hp01
 replace s := s.es 102 hp11
 apply wR
 refine asg s rfl rfl fun a s => ?_
 apply wN
 apply wQ
 apply wR
 refine mv s rfl rfl fun a s => ?_
 refine qq s rfl (y_lenSlice s rfl underlying27) fun a s => ?_
 refine mv s rfl rfl fun a s => ?_
 refine qq s rfl (y_lenSlice s rfl underlying27) fun a s => ?_
 refine qq s rfl (y_neqN (i := ((a_).length)) (j := ((b_).length)) s rfl rfl) fun a s => ?_
 apply wN
 refine c_dec s rfl (fun hc1 => ?_) (fun hc1 => ?_)
 ·replace hg := br_t hg hc1
  apply wR
  refine asg s rfl rfl fun a s => ?_
  apply wN
  apply wp_ret
  refine p_thenR ?_
  obtain rfl := Option.some.inj hg
  refine fin1 (fn := Try.f17) s rfl (r_tmp s rfl) ?_
  exact rfl
 replace hg := br_f hg hc1
 apply wp_skip
 apply pN
 apply wQ
 apply wR
 refine asg s rfl rfl fun a s => ?_
 apply wN
 apply wp_block
 refine c_loop (σ := Nat) (fun m1 a w => ∃ (i_2 : Nat), r03_SameStrings_L0 n a_ b_ m1 i_2 = some r ∧ St (⟨Try.f17.ntmps, M, noB, w0⟩ : Ctx) [(0, sl Ap01 a_ cp01), (1, sl Ap11 b_ cp11), (5, vI (((i_2 : Nat) : Int)))] [] [(101, sF Rep.str Ap01 cp01 a_), (102, sF Rep.str Ap11 cp11 b_)] a w) (fun m1 => m1) n ⟨(0), hg, (s.sb rfl rfl rfl)⟩ ?_
 clear s a; rintro m1 a w ⟨i_2, hg, s⟩
 rcases m1 with _ | m1
 ·rw [r03_SameStrings_L0] at hg; cases hg
 rw [r03_SameStrings_L0] at hg
 apply wQ
 apply wR
 refine mv s rfl rfl fun a s => ?_
 refine mv s rfl rfl fun a s => ?_
 refine qq s rfl (y_lenSlice s rfl underlying27) fun a s => ?_
 refine qq s rfl (y_lssN (i := i_2) (j := ((a_).length)) s rfl rfl) fun a s => ?_
 apply wN
 refine c_dec s rfl (fun hc3 => ?_) (fun hc3 => ?_)
 ·replace hg := br_t hg hc3
  have hmx4 := SlR.mx (s.ft 101 rfl)
  apply wp_skip
  apply pN
  apply wQ
  apply wp_block
  apply wQ
  obtain ⟨x6, hx6, hg⟩ := bind_some hg
  obtain ⟨x9, hx9, hg⟩ := bind_some hg
  refine d_plan s [] [(0, some 0), (1, some 0), (2, some 0), (3, some 0), (4, some 0), (5, some 0), (6, some 0), (7, some 0), (8, some 0)] rfl (by kernel_rfl) (by kernel_rfl) rfl ?_; clear s; intro wr hZ s; have hR := s.wd
  refine qt s hR rfl (y_move s rfl) fun a s => ?_
  refine qt s hR rfl (y_move s rfl) fun a s => ?_
  obtain ⟨p11, hep11, hpp11⟩ := SlR.elemX (s.ft 101 rfl) hx6
  refine qt s hR rfl (y_elem (sz := 1) (i := i_2) s rfl rfl underlying27 rfl hep11 rfl (lt_of_get hx6)) fun a s => ?_
  obtain ⟨hlq12, hmq12, csq12, hdq12, hcq12⟩ := hpp11
  obtain ⟨rfl, lq121⟩ := hdq12
  refine qt s hR rfl (y_ldp1 s rfl hlq12 hmq12 (hcq12 0 _ rfl) underlying9 rfl) fun a s => ?_
  refine qt s hR rfl (y_move s rfl) fun a s => ?_
  refine qt s hR rfl (y_move s rfl) fun a s => ?_
  obtain ⟨p13, hep13, hpp13⟩ := SlR.elemX (s.ft 102 rfl) hx9
  refine qt s hR rfl (y_elem (sz := 1) (i := i_2) s rfl rfl underlying27 rfl hep13 rfl (lt_of_get hx9)) fun a s => ?_
  obtain ⟨hlq14, hmq14, csq14, hdq14, hcq14⟩ := hpp13
  obtain ⟨rfl, lq141⟩ := hdq14
  refine qt s hR rfl (y_ldp1 s rfl hlq14 hmq14 (hcq14 0 _ rfl) underlying9 rfl) fun a s => ?_
  refine qt s hR rfl (y_sne s rfl rfl) fun a s => ?_
  clear hR hZ
  apply pN
  refine c_dec s rfl (fun hc15 => ?_) (fun hc15 => ?_)
  ·replace hg := br_t hg hc15
   apply wR
   refine asg s rfl rfl fun a s => ?_
   apply wN
   apply wp_ret
   refine p_inR ?_
   refine p_thenR ?_
   refine p_thenR ?_
   refine p_inR ?_
   refine p_thenR ?_
   obtain rfl := Option.some.inj hg
   refine fin1 (fn := Try.f17) s rfl (r_tmp s rfl) ?_
   exact rfl
  replace hg := br_f hg hc15
  apply wp_skip
  refine p_inN ?_
  apply pN
  apply wL
  refine mv s rfl rfl fun a s => ?_
  refine qq s rfl (y_addN (i := i_2) (j := 1) s rfl rfl (in64.2 (by omega))) fun a s => ?_
  refine asg s rfl rfl fun a s => ?_
  apply wN
  exact ⟨m1, Nat.lt_succ_self _, ⟨(i_2 + 1), hg, (s.sb rfl rfl rfl)⟩⟩
 replace hg := br_f hg hc3
 apply wp_exit
 refine p_then ?_
 refine p_then ?_
 refine p_in ?_
 apply pN
 apply wR
 refine asg s rfl rfl fun a s => ?_
 apply wN
 apply wp_ret
 obtain rfl := Option.some.inj hg
 refine fin1 (fn := Try.f17) s rfl (r_tmp s rfl) ?_
 exact rfl
set_option maxHeartbeats 1000000 in
theorem c_poset_reach (n : Nat) (M : Bs) (w0 : World) (hM : ∀ b, M b → b < w0.heap.size) (to_ : (List (List UInt8 × (List (List UInt8))))) (bp01 : Nat) (hp01 : MapR (Rep.list Rep.str) M w0 bp01 (to_)) (name_ : (List UInt8)) (lp11 : (name_).length ≤ 9223372036854775807) (r : (List (List UInt8))) (hg : poset_reach n to_ name_ = some r) :
    Calls Try.prog 40 [.map (some bp01), .string (bs (name_))].toArray w0 (Ret noB w0 fun v w => ∃ (Aa1 : Option Addr), ∃ (ca1 : Nat), v = .slice (Aa1) ((r).length) (ca1) ∧ (SlR Rep.str M w Aa1 (r).length ca1 (r))) := by
 unfold poset_reach at hg
 refine enter M noB func40 rfl rfl hM ?_
 intro a s
 replace s := s.add 101 (mapRF (Rep.list Rep.str) bp01 (to_)) (by exact Fact.change _ enterM hp01)
 apply wR
 refine asg s rfl rfl fun a s => ?_
 apply wN
 apply wQ
 apply wR
 refine mv s rfl rfl fun a s => ?_
 refine mv s rfl rfl fun a s => ?_
 obtain ⟨kvm2, hmm2, hfm2⟩ := mapRF_open (s.ft 101 rfl)
 have hm2 := kvF_getD (R := (Rep.list Rep.str)) (k := name_) (z := .slice none 0 0) (zx := []) hfm2 (by exact ⟨_, _, _, rfl, (SlR.nil_ _ _ _)⟩)
 obtain ⟨Am21, nnm2, cm21, em2, hm21⟩ := hm2
 obtain rfl := hm21.len
 replace s := s.ns 103 hm21
 refine qq s rfl (y_lookupOkFV s rfl rfl hmm2 underlying49 underlying9 rfl em2 (kvF_isSome hfm2)) fun a s => ?_
 refine mv s rfl rfl fun a s => ?_
 refine qq s rfl (y_extract s rfl rfl) fun a s => ?_
 refine qq s rfl (y_extract s rfl rfl) fun a s => ?_
 refine asg s rfl rfl fun a s => ?_
 refine asg s rfl rfl fun a s => ?_
 apply wN
 apply wR
 refine mv s rfl rfl fun a s => ?_
 refine qq s rfl (y_not s rfl) fun a s => ?_
 apply wN
 refine c_cond s rfl (fun hc3 => ?_) (fun hc3 => ?_)
 ·replace hg := br_t hg hc3
  apply wR
  refine asg s rfl rfl fun a s => ?_
  apply wN
  apply wp_ret
  refine p_thenR ?_
  obtain rfl := Option.some.inj hg
  refine fin1 (fn := Try.f40) s rfl (r_tmp s rfl) ?_
  exact ⟨(none), (0), rfl, (SlR.nil_ _ _ _)⟩
 replace hg := br_n hg hc3
 apply wp_skip
 apply pN
 apply wR
 refine l_seq rfl (l_makeMap (n := 0) s 1400 underlying55 (.inl rfl) rfl rfl fun b5 a w hb hK s => ?_)
 replace s := s.add 106 (kvF Rep.bool ([]) ([])) (KvRel.nil)
 refine mv s rfl rfl fun a s => ?_
 refine l_seq rfl (l_insert s 1400 rfl rfl rfl rfl underlying55 underlying9 fun w hK s => ?_)
 replace s := s.add 107 (kvF Rep.bool (mset ([]) (name_) (.bool (true))) (mset ([]) (name_) (true))) (kvF_set (s.ft 106 rfl) (by exact rfl))
 refine mv s rfl rfl fun a s => ?_
 refine asg s rfl rfl fun a s => ?_
 apply wN
 apply wR
 refine mv s rfl rfl fun a s => ?_
 refine l_seq rfl (l_buildDense (sz := 1) s 1501 rfl rfl rfl underlying27 rfl rfl rfl rfl rfl rfl rfl fun b7 a w hbb7 hK s => ?_)
 clear hbb7
 refine asg s rfl rfl fun a s => ?_
 apply wN
 apply wQ
 apply wR
 refine asg s rfl rfl fun a s => ?_
 apply wN
 obtain ⟨k8, hg, hk8⟩ := jn_some hg
 refine c_post (fun a w => ∃ (out_9 : (List (List UInt8))) (A10 : Option Addr) (c11 : Nat) (cs12 : List Value), k8 out_9 = some r ∧ St (⟨Try.f40.ntmps, M, noB, w0⟩ : Ctx) [(8, sl A10 out_9 c11)] [(700108, Ob.row (A10) ((out_9).length) (c11) 9 1 (cs12))] [(109, rdF Rep.str (cs12) (out_9))] a w) ?_ ?_
 ·apply wp_block
  replace s := s.al 110 107 rfl
  replace s := s.add 113 (rdF Rep.str (cellsOfL [vT name_]) ([name_])) (RdAll.cons (by exact ⟨rfl, (by omega)⟩) (RdAll.nil _ _ _))
  replace s := s.al 112 113 rfl
  replace s := s.pk [(1400, 1400), (700111, 1501)] (by decide)
  refine c_loop (σ := Nat) (fun m1 a w => ∃ (met_13 : (List (List UInt8 × Bool))) (out_15 : (List (List UInt8))) (i_19 : Nat) (kv14 : List (List UInt8 × Value)) (A16 : Option Addr) (c17 : Nat) (cs18 : List Value), poset_reach_L0 n to_ k8 m1 met_13 out_15 i_19 = some r ∧ St (⟨Try.f40.ntmps, M, noB, w0⟩ : Ctx) [(0, .map (some bp01)), (7, .map (some b5)), (8, sl A16 out_15 c17), (9, vI (((i_19 : Nat) : Int)))] [(1400, Ob.smap b5 (kv14)), (700111, Ob.row (A16) ((out_15).length) (c17) 9 1 (cs18))] [(101, mapRF (Rep.list Rep.str) bp01 (to_)), (110, kvF Rep.bool (kv14) (met_13)), (112, rdF Rep.str (cs18) (out_15))] a w) (fun m1 => m1) n ⟨(mset ([]) (name_) (true)), ([name_]), (0), (mset ([]) (name_) (.bool (true))), (some ⟨b7, 0, none⟩), (1), (cellsOfL [vT name_]), hg, (s.sb rfl rfl rfl)⟩ ?_
  clear s a; rintro m1 a w ⟨met_13, out_15, i_19, kv14, A16, c17, cs18, hg, s⟩
  rcases m1 with _ | m1
  ·rw [poset_reach_L0] at hg; cases hg
  rw [poset_reach_L0] at hg
  apply wQ
  apply wR
  refine mv s rfl rfl fun a s => ?_
  refine mv s rfl rfl fun a s => ?_
  refine qq s rfl (y_lenSlice s rfl underlying27) fun a s => ?_
  refine qq s rfl (y_lssN (i := i_19) (j := ((out_15).length)) s rfl rfl) fun a s => ?_
  apply wN
  refine c_dec s rfl (fun hc20 => ?_) (fun hc20 => ?_)
  ·replace hg := br_t hg hc20
   have hmx21 := row_mx (s.wd.holds 700111 _ rfl)
   apply wp_skip
   apply pN
   apply wQ
   obtain ⟨k22, hg, hk22⟩ := jn_some hg
   refine c_post (fun a w => ∃ (met_23 : (List (List UInt8 × Bool))) (out_25 : (List (List UInt8))) (kv24 : List (List UInt8 × Value)) (A26 : Option Addr) (c27 : Nat) (cs28 : List Value), k22 met_23 out_25 = some r ∧ St (⟨Try.f40.ntmps, M, noB, w0⟩ : Ctx) [(0, .map (some bp01)), (7, .map (some b5)), (8, sl A26 out_25 c27), (9, vI (((i_19 : Nat) : Int)))] [(1400, Ob.smap b5 (kv24)), (700115, Ob.row (A26) ((out_25).length) (c27) 9 1 (cs28))] [(101, mapRF (Rep.list Rep.str) bp01 (to_)), (114, kvF Rep.bool (kv24) (met_23)), (116, rdF Rep.str (cs28) (out_25))] a w) ?_ ?_
   ·apply wp_block
    apply wQ
    obtain ⟨x30, hx30, hg⟩ := bind_some hg
    apply wL
    refine mv s rfl rfl fun a s => ?_
    refine mv s rfl rfl fun a s => ?_
    refine mv s rfl rfl fun a s => ?_
    obtain ⟨hiq33, bq33, hAq33⟩ := SlR.row1 (s.wd.holds 700111 _ rfl) (s.ft 112 rfl) rfl rfl hx30
    refine qq s rfl (y_rowIndex (sz := 1) (i := i_19) s rfl rfl underlying27 rfl hAq33 rfl hiq33) fun a s => ?_
    have hz34 := (s.ft 112 rfl).at_ _ _ hx30
    obtain ⟨ez34, lz341⟩ := hz34
    refine qq s rfl (y_loadRow1 (kk := 700111) s rfl rfl hAq33 (take1 ez34) underlying9 rfl) fun a s => ?_
    obtain ⟨kvm35, hmm35, hfm35⟩ := mapRF_open (s.ft 101 rfl)
    have hm35 := kvF_getD (R := (Rep.list Rep.str)) (k := x30) (z := .slice none 0 0) (zx := []) hfm35 (by exact ⟨_, _, _, rfl, (SlR.nil_ _ _ _)⟩)
    obtain ⟨Am351, nnm35, cm351, em35, hm351⟩ := hm35
    obtain rfl := hm351.len
    replace s := s.ns 118 hm351
    refine qq s rfl (y_lookupFV s rfl rfl hmm35 underlying49 underlying9 rfl em35) fun a s => ?_
    refine qq s rfl (y_lenSlice s rfl underlying27) fun a s => ?_
    refine mv s rfl rfl fun a s => ?_
    apply wN
    apply wp_block
    replace s := s.al 119 110 rfl
    replace s := s.al 121 112 rfl
    replace s := s.pk [(1400, 1400), (700120, 700111)] (by decide)
    refine c_loop (σ := Nat) (fun m2 a w => ∃ (met_36 : (List (List UInt8 × Bool))) (out_38 : (List (List UInt8))) (t_42 : Nat) (kv37 : List (List UInt8 × Value)) (A39 : Option Addr) (c40 : Nat) (cs41 : List Value), poset_reach_L1 n to_ k22 x30 m2 met_36 out_38 t_42 = some r ∧ St (⟨Try.f40.ntmps, M, noB, w0⟩ : Ctx) [(0, .map (some bp01)), (7, .map (some b5)), (8, sl A39 out_38 c40), (9, vI (((i_19 : Nat) : Int))), (36, sl Am351 (((mget to_ x30).getD [])) cm351), (37, vI ((((((mget to_ x30).getD [])).length : Nat) : Int))), (38, vI (((t_42 : Nat) : Int)))] [(1400, Ob.smap b5 (kv37)), (700120, Ob.row (A39) ((out_38).length) (c40) 9 1 (cs41))] [(101, mapRF (Rep.list Rep.str) bp01 (to_)), (118, sF Rep.str Am351 cm351 (((mget to_ x30).getD []))), (119, kvF Rep.bool (kv37) (met_36)), (121, rdF Rep.str (cs41) (out_38))] a w) (fun m2 => m2) n ⟨(met_13), (out_15), (0), (kv14), (A16), (c17), (cs18), hg, (s.sb rfl rfl rfl)⟩ ?_
    clear s a; rintro m2 a w ⟨met_36, out_38, t_42, kv37, A39, c40, cs41, hg, s⟩
    rcases m2 with _ | m2
    ·rw [poset_reach_L1] at hg; cases hg
    rw [poset_reach_L1] at hg
    apply wR
    refine qq s rfl (y_lssN (i := t_42) (j := ((((mget to_ x30).getD [])).length)) s rfl rfl) fun a s => ?_
    apply wN
    apply wQ
    refine c_dec s rfl (fun hc43 => ?_) (fun hc43 => ?_)
    ·replace hg := br_t hg hc43
     have hmx44 := SlR.mx (s.ft 118 rfl)
     apply wp_skip
     apply pN
     apply wQ
     apply wp_block
     apply wQ
     obtain ⟨x46, hx46, hg⟩ := bind_some hg
     apply wL
     obtain ⟨p48, hep48, hpp48⟩ := SlR.elemX (s.ft 118 rfl) hx46
     refine qq s rfl (y_elem (sz := 1) (i := t_42) s rfl rfl underlying27 rfl hep48 rfl (lt_of_get hx46)) fun a s => ?_
     obtain ⟨hlq49, hmq49, csq49, hdq49, hcq49⟩ := hpp48
     obtain ⟨rfl, lq491⟩ := hdq49
     refine qq s rfl (y_ldp1 s rfl hlq49 hmq49 (hcq49 0 _ rfl) underlying9 rfl) fun a s => ?_
     refine asg s rfl rfl fun a s => ?_
     apply wN
     apply wR
     refine mv s rfl rfl fun a s => ?_
     refine mv s rfl rfl fun a s => ?_
     have hm51 := kvF_getD (R := Rep.bool) (k := x46) (z := .bool (false)) (zx := false) (s.ft 119 rfl) (by exact rfl)
     have em51 := hm51
     refine qq s rfl (y_lookupV (kk := 1400) s rfl rfl rfl underlying55 underlying9 rfl em51) fun a s => ?_
     refine qq s rfl (y_not s rfl) fun a s => ?_
     apply wN
     refine c_cond s rfl (fun hc52 => ?_) (fun hc52 => ?_)
     ·replace hg := br_t hg hc52
      apply wR
      refine mv s rfl rfl fun a s => ?_
      refine mv s rfl rfl fun a s => ?_
      refine l_seq rfl (l_mapUpdate s 1400 rfl rfl rfl rfl underlying55 underlying9 fun w hK s => ?_)
      replace s := s.add 123 (kvF Rep.bool (mset (kv37) (x46) (.bool (true))) (mset (met_36) (x46) (true))) (kvF_set (s.ft 119 rfl) (by exact rfl))
      apply wN
      obtain ⟨hk54, hg⟩ := chk_some hg
      apply wL
      refine mv s rfl rfl fun a s => ?_
      refine mv s rfl rfl fun a s => ?_
      refine l_seq rfl (l_buildDense (sz := 1) s 2402 rfl rfl rfl underlying27 rfl rfl rfl rfl rfl rfl rfl fun b57 a w hbb57 hK s => ?_)
      clear hbb57
      replace s := s.add 126 (rdF Rep.str (cellsOfL [vT x46]) ([x46])) (RdAll.cons (by exact ⟨rfl, (by omega)⟩) (RdAll.nil _ _ _))
      have hs59 := row_src (s.wd.holds 2402 _ rfl) (RdAll.one (s.ft 126 rfl))
      refine l_seq rfl (l_append (sz := 1) (by_ := 16) (N := (out_38 ++ [x46]).length) s 700120 rfl rfl rfl underlying27 rfl rfl rfl rfl rfl hs59 (by rw [List.length_append]; try rfl) rfl (rmA hk54 rfl) (rmB hk54) rfl fun Aq58 cq58 a w hA hK s => ?_)
      replace s := s.add 127 (rdF Rep.str (cs41 ++ (cellsOfL [vT x46])) (out_38 ++ [x46])) (RdAll.append (s.ft 121 rfl) (s.ft 126 rfl))
      refine asg s rfl rfl fun a s => ?_
      apply wO
      refine p_inN ?_
      apply pN
      apply wL
      refine qq s rfl (y_addN (i := t_42) (j := 1) s rfl rfl (in64.2 (by omega))) fun a s => ?_
      refine mv s rfl rfl fun a s => ?_
      apply wN
      replace s := s.al 119 123 rfl
      replace s := s.al 121 127 rfl
      exact ⟨m2, Nat.lt_succ_self _, ⟨(mset (met_36) (x46) (true)), (out_38 ++ [x46]), (t_42 + 1), (mset (kv37) (x46) (.bool (true))), (Aq58), (cq58), (cs41 ++ (cellsOfL [vT x46])), hg, (s.sb rfl rfl rfl)⟩⟩
     replace hg := br_n hg hc52
     apply wp_skip
     refine p_inN ?_
     apply pN
     apply wL
     refine qq s rfl (y_addN (i := t_42) (j := 1) s rfl rfl (in64.2 (by omega))) fun a s => ?_
     refine mv s rfl rfl fun a s => ?_
     apply wN
     replace s := s.al 119 119 rfl
     replace s := s.al 121 121 rfl
     exact ⟨m2, Nat.lt_succ_self _, ⟨(met_36), (out_38), (t_42 + 1), (kv37), (A39), (c40), (cs41), hg, (s.sb rfl rfl rfl)⟩⟩
    replace hg := br_f hg hc43
    apply wp_exit
    refine p_then ?_
    refine p_then ?_
    refine p_in ?_
    refine p_inN ?_
    apply pN
    replace s := s.al 114 119 rfl
    replace s := s.al 116 121 rfl
    replace s := s.pk [(1400, 1400), (700115, 700120)] (by decide)
    exact ⟨(met_36), (out_38), (kv37), (A39), (c40), (cs41), hg, (s.sb rfl rfl rfl)⟩
   clear s a; rintro a w ⟨met_23, out_25, kv24, A26, c27, cs28, hg, s⟩
   subst hk22
   apply wL
   refine mv s rfl rfl fun a s => ?_
   refine qq s rfl (y_addN (i := i_19) (j := 1) s rfl rfl (in64.2 (by omega))) fun a s => ?_
   refine asg s rfl rfl fun a s => ?_
   apply wN
   replace s := s.al 110 114 rfl
   replace s := s.al 112 116 rfl
   replace s := s.pk [(1400, 1400), (700111, 700115)] (by decide)
   exact ⟨m1, Nat.lt_succ_self _, ⟨(met_23), (out_25), (i_19 + 1), (kv24), (A26), (c27), (cs28), hg, (s.sb rfl rfl rfl)⟩⟩
  replace hg := br_f hg hc20
  apply wp_exit
  refine p_then ?_
  refine p_then ?_
  refine p_in ?_
  apply pN
  replace s := s.al 109 112 rfl
  replace s := s.pk [(1400, 1400), (700108, 700111)] (by decide)
  exact ⟨(out_15), (A16), (c17), (cs18), hg, (s.sb rfl rfl rfl)⟩
 clear s a; rintro a w ⟨out_9, A10, c11, cs12, hg, s⟩
 subst hk8
 apply wQ
 obtain ⟨r60, hr60, hg⟩ := bind_some hg
 apply wL
 refine mv s rfl rfl fun a s => ?_
 have hT := s.pk [(9200000, 700108)] (by decide)
 replace hT := hT.al 9300000 109 rfl
 refine l_seq rfl (l_callMut (cap := []) hT _ [] (sbA (by rfl)) trivial (by rfl) rfl func57 rfl (by kernel_rfl) rfl rfl (c_slices_Sort_string n _ _ (hT.restLt []) _ out_9 (A10) (c11) (cs12) (hT.wd.lendL _ _ _ (sbA (by rfl)) (keep_sub []) (by rfl) (sbA (by rfl))) r60 hr60) ?_); intro v63 a' w' hK hp hF
 obtain ⟨csm0_0u64, rfl, hWu64⟩ := hp
 have hS2 := St.mk hF (hT.wd.back (sbA (by rfl)) (keep_sub []) (by rfl) hWu64 (by rfl))
 clear s hT hF hWu64 hK; revert hS2; revert w'; revert a'; intro a w s
 replace s := s.al 129 9300000 rfl
 replace s := s.ren [(700108, Ob.row (A10) ((out_9).length) (c11) 9 1 (csm0_0u64))] [9200000] ⟨rfl, trivial⟩ (by decide)
 replace s := s.sub (l' := [(8, .slice (A10) ((out_9).length) (c11)), (53, .slice (A10) ((out_9).length) (c11)), (54, .tuple #[])]) (L' := [(700108, Ob.row (A10) ((out_9).length) (c11) 9 1 (csm0_0u64))]) (D' := [(109, rdF Rep.str (cs12) (out_9)), (129, rdF Rep.str (csm0_0u64) (r60))]) ⟨rfl, rfl, rfl, trivial⟩ ⟨rfl, trivial⟩ ⟨rfl, rfl, trivial⟩
 have hrlu640 := rowN (s.wd.holds 700108 _ rfl) (s.ft 129 rfl) rfl rfl
 replace s := s.eqs (l' := [(8, .slice (A10) ((r60).length) (c11)), (53, .slice (A10) ((r60).length) (c11)), (54, .tuple #[])]) (L' := [(700108, Ob.row (A10) ((r60).length) (c11) 9 1 (csm0_0u64))]) (by simp only [hrlu640]) (by simp only [hrlu640])
 apply wN
 apply wR
 refine mv s rfl rfl fun a s => ?_
 refine asg s rfl rfl fun a s => ?_
 apply wN
 apply wp_ret
 obtain rfl := Option.some.inj hg
 refine fin1 (fn := Try.f40) s rfl (r_tmp s rfl) ?_
 exact ⟨(A10), (c11), rfl, (s.rowOut (R := Rep.str) (kk := 700108) rfl rfl (s.ft 129 rfl))⟩
set_option maxHeartbeats 1000000 in
theorem c_poset_Above (n : Nat) (M : Bs) (w0 : World) (hM : ∀ b, M b → b < w0.heap.size) (d_ : (List TypeDecl)) (Ap01 : Option Addr) (cp01 : Nat) (hp01 : SlR RTypeDecl M w0 Ap01 (d_).length cp01 (d_)) (name_ : (List UInt8)) (lp11 : (name_).length ≤ 9223372036854775807) (r : (List (List UInt8))) (hg : poset_Above n d_ name_ = some r) :
    Calls Try.prog 20 [.slice (Ap01) ((d_).length) (cp01), .string (bs (name_))].toArray w0 (Ret noB w0 fun v w => ∃ (Aa1 : Option Addr), ∃ (ca1 : Nat), v = .slice (Aa1) ((r).length) (ca1) ∧ (SlR Rep.str M w Aa1 (r).length ca1 (r))) := by
 unfold poset_Above at hg
 refine enter M noB func20 rfl rfl hM ?_
 intro a s
 replace s := s.es 101 hp01
 apply wR
 refine asg s rfl rfl fun a s => ?_
 apply wN
 apply wQ
 obtain ⟨r1, hr1, hg⟩ := bind_some hg
 obtain ⟨r4, hr4, hg⟩ := bind_some hg
 apply wL
 refine mv s rfl rfl fun a s => ?_
 refine lc s rfl func41 (by kernel_rfl) (c_poset_supers n _ _ s.lt _ _ _ (s.ft 101 rfl) _ hr1) fun v7 a w hK hp s => ?_
 obtain ⟨bu8a1, rfl, hu8a1⟩ := hp
 replace s := s.add 104 (mapRF (Rep.list Rep.str) bu8a1 (r1)) hu8a1
 refine mv s rfl rfl fun a s => ?_
 refine lc s rfl func40 (by kernel_rfl) (c_poset_reach n _ _ s.lt _ _ (s.ft 104 rfl) _ (by omega) _ hr4) fun v9 a w hK hp s => ?_
 obtain ⟨Au10a1, cu10a1, rfl, hu10a1⟩ := hp
 replace s := s.ns 105 hu10a1
 refine asg s rfl rfl fun a s => ?_
 apply wN
 apply wp_ret
 obtain rfl := Option.some.inj hg
 refine fin1 (fn := Try.f20) s rfl (r_tmp s rfl) ?_
 exact ⟨(Au10a1), (cu10a1), rfl, (s.out (k := 105) rfl)⟩
set_option maxHeartbeats 1000000 in
theorem c_poset_Below (n : Nat) (M : Bs) (w0 : World) (hM : ∀ b, M b → b < w0.heap.size) (d_ : (List TypeDecl)) (Ap01 : Option Addr) (cp01 : Nat) (hp01 : SlR RTypeDecl M w0 Ap01 (d_).length cp01 (d_)) (name_ : (List UInt8)) (lp11 : (name_).length ≤ 9223372036854775807) (r : (List (List UInt8))) (hg : poset_Below n d_ name_ = some r) :
    Calls Try.prog 22 [.slice (Ap01) ((d_).length) (cp01), .string (bs (name_))].toArray w0 (Ret noB w0 fun v w => ∃ (Aa1 : Option Addr), ∃ (ca1 : Nat), v = .slice (Aa1) ((r).length) (ca1) ∧ (SlR Rep.str M w Aa1 (r).length ca1 (r))) := by
 unfold poset_Below at hg
 refine enter M noB func22 rfl rfl hM ?_
 intro a s
 replace s := s.es 101 hp01
 apply wR
 refine asg s rfl rfl fun a s => ?_
 apply wN
 apply wR
 refine mv s rfl rfl fun a s => ?_
 refine qq s rfl (y_lenSlice s rfl underlying22) fun a s => ?_
 refine l_seq rfl (l_makeRows (n := (((d_).length : Nat) : Int)) s 1102 9 1 underlying49 (.inr rfl) rfl rfl fun b2 a w hb hK s => ?_)
 replace s := s.add 103 (rowsF Rep.str ([]) ([])) (KvRel.nil)
 refine asg s rfl rfl fun a s => ?_
 apply wN
 apply wQ
 apply wR
 refine mv s rfl rfl fun a s => ?_
 refine qq s rfl (y_lenSlice s rfl underlying22) fun a s => ?_
 refine mv s rfl rfl fun a s => ?_
 apply wN
 obtain ⟨k3, hg, hk3⟩ := jn_some hg
 refine c_post (fun a w => ∃ (to_4 : (List (List UInt8 × (List (List UInt8))))), ∃ (kv5 : List (List UInt8 × Rw)), k3 to_4 = some r ∧ St (⟨Try.f22.ntmps, M, noB, w0⟩ : Ctx) [(1, vT name_), (5, .map (some b2))] [(1102, Ob.mrows b2 9 1 (kv5) none)] [(104, rowsF Rep.str (kv5) (to_4))] a w) ?_ ?_
 ·apply wp_block
  replace s := s.al 105 103 rfl
  refine c_loop (σ := Nat) (fun m1 a w => ∃ (to_6 : (List (List UInt8 × (List (List UInt8))))), ∃ (t_8 : Nat) (kv7 : List (List UInt8 × Rw)), poset_Below_L0 n d_ k3 m1 to_6 t_8 = some r ∧ St (⟨Try.f22.ntmps, M, noB, w0⟩ : Ctx) [(1, vT name_), (5, .map (some b2)), (15, sl Ap01 d_ cp01), (16, vI ((((d_).length : Nat) : Int))), (17, vI (((t_8 : Nat) : Int)))] [(1102, Ob.mrows b2 9 1 (kv7) none)] [(101, sF RTypeDecl Ap01 cp01 d_), (105, rowsF Rep.str (kv7) (to_6))] a w) (fun m1 => m1) n ⟨([]), (0), ([]), hg, (s.sb rfl rfl rfl)⟩ ?_
  clear s a; rintro m1 a w ⟨to_6, t_8, kv7, hg, s⟩
  rcases m1 with _ | m1
  ·rw [poset_Below_L0] at hg; cases hg
  rw [poset_Below_L0] at hg
  apply wR
  refine qq s rfl (y_lssN (i := t_8) (j := ((d_).length)) s rfl rfl) fun a s => ?_
  apply wN
  apply wQ
  refine c_dec s rfl (fun hc9 => ?_) (fun hc9 => ?_)
  ·replace hg := br_t hg hc9
   have hmx10 := SlR.mx (s.ft 101 rfl)
   apply wp_skip
   apply pN
   apply wQ
   obtain ⟨k11, hg, hk11⟩ := jn_some hg
   refine c_post (fun a w => ∃ (to_12 : (List (List UInt8 × (List (List UInt8))))), ∃ (kv13 : List (List UInt8 × Rw)), k11 to_12 = some r ∧ St (⟨Try.f22.ntmps, M, noB, w0⟩ : Ctx) [(1, vT name_), (5, .map (some b2)), (15, sl Ap01 d_ cp01), (16, vI ((((d_).length : Nat) : Int))), (17, vI (((t_8 : Nat) : Int)))] [(1102, Ob.mrows b2 9 1 (kv13) none)] [(101, sF RTypeDecl Ap01 cp01 d_), (106, rowsF Rep.str (kv13) (to_12))] a w) ?_ ?_
   ·apply wp_block
    apply wQ
    obtain ⟨x15, hx15, hg⟩ := bind_some hg
    apply wL
    obtain ⟨p18, hep18, hpp18⟩ := SlR.elemX (s.ft 101 rfl) hx15
    refine qq s rfl (y_elem (sz := 3) (i := t_8) s rfl rfl underlying22 rfl hep18 rfl (lt_of_get hx15)) fun a s => ?_
    obtain ⟨hlq19, hmq19, csq19, hdq19, hcq19⟩ := hpp18
    obtain ⟨Aq192, cq192, Aq193, cq193, rfl, lq191, hq192, hq193⟩ := RTypeDecl.open hdq19
    replace s := s.ns 109 hq192
    replace s := s.ns 110 hq193
    refine qq s rfl (y_ldp s rfl hlq19 hmq19 (by simpa using hcq19) underlying40 rfl rfl) fun a s => ?_
    refine l_seq rfl (l_alloc (zs := [vT ([]), .slice none 0 0, .slice none 0 0]) s 1402 rfl rfl rfl rfl fun b20 a w hb hK s => ?_)
    refine l_seq rfl (l_store (n := 3) (cs' := [vT x15.Name, sl Aq192 x15.Supers cq192, sl Aq193 x15.Feats cq193]) s 1402 rfl rfl rfl rfl rfl rfl rfl rfl ?_); clear s; intro w hK s; clear hK
    apply wN
    apply wQ
    apply wR
    refine mv s rfl rfl fun a s => ?_
    refine qq s rfl (y_boxField (o' := 0) s rfl underlying40 rfl rfl rfl) fun a s => ?_
    refine qq s rfl (y_loadBox1 (kk := 1402) s rfl rfl rfl underlying9 rfl) fun a s => ?_
    refine qq s rfl (y_lookupOkRows' (kk := 1102) s rfl rfl rfl underlying49 underlying9 rfl (rowsF_isSome (s.ft 105 rfl))) fun a s => ?_
    refine mv s rfl rfl fun a s => ?_
    refine qq s rfl (y_extract s rfl rfl) fun a s => ?_
    refine qq s rfl (y_extract s rfl rfl) fun a s => ?_
    refine asg s rfl rfl fun a s => ?_
    refine asg s rfl rfl fun a s => ?_
    apply wN
    apply wR
    refine mv s rfl rfl fun a s => ?_
    refine qq s rfl (y_not s rfl) fun a s => ?_
    apply wN
    obtain ⟨k21, hg, hk21⟩ := jn_some hg
    refine c_post (fun a w => ∃ (to_22 : (List (List UInt8 × (List (List UInt8))))), ∃ (kv23 : List (List UInt8 × Rw)), k21 to_22 = some r ∧ St (⟨Try.f22.ntmps, M, noB, w0⟩ : Ctx) [(1, vT name_), (5, .map (some b2)), (7, vP b20 0), (15, sl Ap01 d_ cp01), (16, vI ((((d_).length : Nat) : Int))), (17, vI (((t_8 : Nat) : Int)))] [(1102, Ob.mrows b2 9 1 (kv23) none), (1402, Ob.box b20 [vT x15.Name, sl Aq192 x15.Supers cq192, sl Aq193 x15.Feats cq193] 40)] [(101, sF RTypeDecl Ap01 cp01 d_), (109, sF Rep.str Aq192 cq192 x15.Supers), (110, sF RFeatDecl Aq193 cq193 x15.Feats), (111, rowsF Rep.str (kv23) (to_22))] a w) ?_ ?_
    ·refine c_cond s rfl (fun hc24 => ?_) (fun hc24 => ?_)
     ·replace hg := br_t hg hc24
      apply wL
      refine mv s rfl rfl fun a s => ?_
      refine qq s rfl (y_boxField (o' := 0) s rfl underlying40 rfl rfl rfl) fun a s => ?_
      refine qq s rfl (y_loadBox1 (kk := 1402) s rfl rfl rfl underlying9 rfl) fun a s => ?_
      obtain ⟨At26, ct26, cst26, hvt26, hrt26, hS'⟩ := s.takeRowX (R := Rep.str) (kk := 1102) (kr := 400116) x15.Name rfl rfl (s.ft 105 rfl) rfl; clear s; have s := hS'; clear hS'
      replace s := s.add 117 (rdF Rep.str cst26 ((mget to_6 x15.Name).getD [])) hrt26
      replace s := s.nilRow 501703 9 1 rfl
      replace s := s.add 118 (rdF Rep.str ([]) ([])) (RdAll.nil _ _ _)
      refine l_seq rfl (l_putRow (r := ⟨none, 0, 0, []⟩) (L' := [(1102, Ob.mrows b2 9 1 (kv7) (some (x15.Name))), (1402, Ob.box b20 [vT x15.Name, sl Aq192 x15.Supers cq192, sl Aq193 x15.Feats cq193] 40), (400116, Ob.row (At26) (((mget to_6 x15.Name).getD []).length) (ct26) 9 1 (cst26))]) s 1102 501703 rfl rfl rfl rfl rfl rfl ⟨rfl, rfl, rfl, trivial⟩ rfl underlying49 underlying9 fun w hK s => ?_)
      replace s := s.add 119 (rowsF Rep.str (mset (kv7) (x15.Name) ⟨none, 0, 0, []⟩) (mset (to_6) (x15.Name) ([]))) (rowsF_set (r := ⟨none, 0, 0, []⟩) (s.ft 105 rfl) (s.ft 118 rfl))
      apply wN
      replace s := s.al 111 119 rfl
      exact ⟨(mset (to_6) (x15.Name) ([])), (mset (kv7) (x15.Name) ⟨none, 0, 0, []⟩), hg, (s.sb rfl rfl rfl)⟩
     replace hg := br_n hg hc24
     apply wp_skip
     apply pN
     replace s := s.al 111 105 rfl
     exact ⟨(to_6), (kv7), hg, (s.sb rfl rfl rfl)⟩
    clear s a; rintro a w ⟨to_22, kv23, hg, s⟩
    subst hk21
    apply wR
    refine qq s rfl (y_boxField (o' := 1) s rfl underlying40 rfl rfl rfl) fun a s => ?_
    refine qq s rfl (y_loadBox1 (kk := 1402) s rfl rfl rfl underlying27 rfl) fun a s => ?_
    refine qq s rfl (y_lenSlice s rfl underlying27) fun a s => ?_
    refine mv s rfl rfl fun a s => ?_
    apply wN
    apply wp_block
    replace s := s.al 120 111 rfl
    refine c_loop (σ := Nat) (fun m2 a w => ∃ (to_27 : (List (List UInt8 × (List (List UInt8))))), ∃ (t_29 : Nat) (kv28 : List (List UInt8 × Rw)), poset_Below_L1 n k11 x15 m2 to_27 t_29 = some r ∧ St (⟨Try.f22.ntmps, M, noB, w0⟩ : Ctx) [(1, vT name_), (5, .map (some b2)), (7, vP b20 0), (15, sl Ap01 d_ cp01), (16, vI ((((d_).length : Nat) : Int))), (17, vI (((t_8 : Nat) : Int))), (34, sl Aq192 x15.Supers cq192), (35, vI ((((x15.Supers).length : Nat) : Int))), (36, vI (((t_29 : Nat) : Int)))] [(1102, Ob.mrows b2 9 1 (kv28) none), (1402, Ob.box b20 [vT x15.Name, sl Aq192 x15.Supers cq192, sl Aq193 x15.Feats cq193] 40)] [(101, sF RTypeDecl Ap01 cp01 d_), (109, sF Rep.str Aq192 cq192 x15.Supers), (110, sF RFeatDecl Aq193 cq193 x15.Feats), (120, rowsF Rep.str (kv28) (to_27))] a w) (fun m2 => m2) n ⟨(to_22), (0), (kv23), hg, (s.sb rfl rfl rfl)⟩ ?_
    clear s a; rintro m2 a w ⟨to_27, t_29, kv28, hg, s⟩
    rcases m2 with _ | m2
    ·rw [poset_Below_L1] at hg; cases hg
    rw [poset_Below_L1] at hg
    apply wR
    refine qq s rfl (y_lssN (i := t_29) (j := ((x15.Supers).length)) s rfl rfl) fun a s => ?_
    apply wN
    apply wQ
    refine c_dec s rfl (fun hc30 => ?_) (fun hc30 => ?_)
    ·replace hg := br_t hg hc30
     have hmx31 := SlR.mx (s.ft 109 rfl)
     apply wp_skip
     apply pN
     apply wQ
     apply wp_block
     apply wQ
     obtain ⟨x33, hx33, hg⟩ := bind_some hg
     apply wL
     obtain ⟨p35, hep35, hpp35⟩ := SlR.elemX (s.ft 109 rfl) hx33
     refine qq s rfl (y_elem (sz := 1) (i := t_29) s rfl rfl underlying27 rfl hep35 rfl (lt_of_get hx33)) fun a s => ?_
     obtain ⟨hlq36, hmq36, csq36, hdq36, hcq36⟩ := hpp35
     obtain ⟨rfl, lq361⟩ := hdq36
     refine qq s rfl (y_ldp1 s rfl hlq36 hmq36 (hcq36 0 _ rfl) underlying9 rfl) fun a s => ?_
     refine asg s rfl rfl fun a s => ?_
     apply wN
     obtain ⟨hk39, hg⟩ := chk_some hg
     apply wL
     refine mv s rfl rfl fun a s => ?_
     refine mv s rfl rfl fun a s => ?_
     refine mv s rfl rfl fun a s => ?_
     refine mv s rfl rfl fun a s => ?_
     obtain ⟨At42, ct42, cst42, hvt42, hrt42, hS'⟩ := s.takeRowX (R := Rep.str) (kk := 1102) (kr := 400126) x33 rfl rfl (s.ft 120 rfl) rfl; clear s; have s := hS'; clear hS'
     replace s := s.add 127 (rdF Rep.str cst42 ((mget to_27 x33).getD [])) hrt42
     refine qq s rfl (y_lookupRowsV (kk := 1102) s rfl rfl rfl underlying49 underlying9 rfl hvt42) fun a s => ?_
     refine qq s rfl (y_boxField (o' := 0) s rfl underlying40 rfl rfl rfl) fun a s => ?_
     refine qq s rfl (y_loadBox1 (kk := 1402) s rfl rfl rfl underlying9 rfl) fun a s => ?_
     refine l_seq rfl (l_buildDense (sz := 1) s 2107 rfl rfl rfl underlying27 rfl rfl rfl rfl rfl rfl rfl fun b43 a w hbb43 hK s => ?_)
     clear hbb43
     replace s := s.add 128 (rdF Rep.str (cellsOfL [vT x15.Name]) ([x15.Name])) (RdAll.cons (by exact ⟨rfl, (by omega)⟩) (RdAll.nil _ _ _))
     have hs45 := row_src (s.wd.holds 2107 _ rfl) (RdAll.one (s.ft 128 rfl))
     refine l_seq rfl (l_append (sz := 1) (by_ := 16) (N := (((mget to_27 x33).getD []) ++ [x15.Name]).length) s 400126 rfl rfl rfl underlying27 rfl rfl rfl rfl rfl hs45 (by rw [List.length_append]; try rfl) rfl (rmA hk39 rfl) (rmB hk39) rfl fun Aq44 cq44 a w hA hK s => ?_)
     replace s := s.add 129 (rdF Rep.str (cst42 ++ (cellsOfL [vT x15.Name])) (((mget to_27 x33).getD []) ++ [x15.Name])) (RdAll.append (s.ft 127 rfl) (s.ft 128 rfl))
     refine l_seq rfl (l_putRow (r := ⟨Aq44, (((mget to_27 x33).getD []) ++ [x15.Name]).length, cq44, cst42 ++ (cellsOfL [vT x15.Name])⟩) (L' := [(1102, Ob.mrows b2 9 1 (kv28) (some (x33))), (1402, Ob.box b20 [vT x15.Name, sl Aq192 x15.Supers cq192, sl Aq193 x15.Feats cq193] 40), (2107, Ob.row (some ⟨b43, 0, none⟩) (1) (1) 9 1 (cellsOfL [vT x15.Name]))]) s 1102 400126 rfl rfl rfl rfl rfl rfl ⟨rfl, rfl, rfl, trivial⟩ rfl underlying49 underlying9 fun w hK s => ?_)
     replace s := s.add 130 (rowsF Rep.str (mset (kv28) (x33) ⟨Aq44, (((mget to_27 x33).getD []) ++ [x15.Name]).length, cq44, cst42 ++ (cellsOfL [vT x15.Name])⟩) (mset (to_27) (x33) (((mget to_27 x33).getD []) ++ [x15.Name]))) (rowsF_set (r := ⟨Aq44, (((mget to_27 x33).getD []) ++ [x15.Name]).length, cq44, cst42 ++ (cellsOfL [vT x15.Name])⟩) (s.ft 120 rfl) (s.ft 129 rfl))
     apply wO
     refine p_inN ?_
     apply pN
     apply wL
     refine qq s rfl (y_addN (i := t_29) (j := 1) s rfl rfl (in64.2 (by omega))) fun a s => ?_
     refine mv s rfl rfl fun a s => ?_
     apply wN
     replace s := s.al 120 130 rfl
     exact ⟨m2, Nat.lt_succ_self _, ⟨(mset (to_27) (x33) (((mget to_27 x33).getD []) ++ [x15.Name])), (t_29 + 1), (mset (kv28) (x33) ⟨Aq44, (((mget to_27 x33).getD []) ++ [x15.Name]).length, cq44, cst42 ++ (cellsOfL [vT x15.Name])⟩), hg, (s.sb rfl rfl rfl)⟩⟩
    replace hg := br_f hg hc30
    apply wp_exit
    refine p_then ?_
    refine p_then ?_
    refine p_in ?_
    refine p_inN ?_
    apply pN
    replace s := s.al 106 120 rfl
    exact ⟨(to_27), (kv28), hg, (s.sb rfl rfl rfl)⟩
   clear s a; rintro a w ⟨to_12, kv13, hg, s⟩
   subst hk11
   apply wL
   refine qq s rfl (y_addN (i := t_8) (j := 1) s rfl rfl (in64.2 (by omega))) fun a s => ?_
   refine mv s rfl rfl fun a s => ?_
   apply wN
   replace s := s.al 105 106 rfl
   exact ⟨m1, Nat.lt_succ_self _, ⟨(to_12), (t_8 + 1), (kv13), hg, (s.sb rfl rfl rfl)⟩⟩
  replace hg := br_f hg hc9
  apply wp_exit
  refine p_then ?_
  refine p_then ?_
  refine p_in ?_
  apply pN
  replace s := s.al 104 105 rfl
  exact ⟨(to_6), (kv7), hg, (s.sb rfl rfl rfl)⟩
 clear s a; rintro a w ⟨to_4, kv5, hg, s⟩
 subst hk3
 apply wQ
 obtain ⟨r46, hr46, hg⟩ := bind_some hg
 apply wL
 refine mv s rfl rfl fun a s => ?_
 refine mv s rfl rfl fun a s => ?_
 replace s := s.freezeRows (R := Rep.str) (L' := []) 133 1102 rfl (s.ft 104 rfl) rfl trivial rfl
 refine lc s rfl func40 (by kernel_rfl) (c_poset_reach n _ _ s.lt _ _ (s.ft 133 rfl) _ (by omega) _ hr46) fun v49 a w hK hp s => ?_
 obtain ⟨Au50a1, cu50a1, rfl, hu50a1⟩ := hp
 replace s := s.ns 134 hu50a1
 refine asg s rfl rfl fun a s => ?_
 apply wN
 apply wp_ret
 obtain rfl := Option.some.inj hg
 refine fin1 (fn := Try.f22) s rfl (r_tmp s rfl) ?_
 exact ⟨(Au50a1), (cu50a1), rfl, (s.out (k := 134) rfl)⟩
set_option maxHeartbeats 1000000 in
theorem c_poset_declared (n : Nat) (M : Bs) (w0 : World) (hM : ∀ b, M b → b < w0.heap.size) (d_ : (List TypeDecl)) (Ap01 : Option Addr) (cp01 : Nat) (hp01 : SlR RTypeDecl M w0 Ap01 (d_).length cp01 (d_)) (l_ : (List (List UInt8))) (Ap11 : Option Addr) (cp11 : Nat) (hp11 : SlR Rep.str M w0 Ap11 (l_).length cp11 (l_)) (r : (List (List UInt8))) (hg : poset_declared n d_ l_ = some r) :
    Calls Try.prog 43 [.slice (Ap01) ((d_).length) (cp01), .slice (Ap11) ((l_).length) (cp11)].toArray w0 (Ret noB w0 fun v w => ∃ (Ao : Option Addr), ∃ (co : Nat), ∃ (cso : List Value), v = .slice (Ao) ((r).length) (co) ∧ ((Ob.row Ao (r).length co 9 1 cso).holds w) ∧ (∀ b, (Ob.row Ao (r).length co 9 1 cso).ids b → w0.heap.size ≤ b) ∧ (RdAll Rep.str (fun b => M b ∨ (Ob.row Ao (r).length co 9 1 cso).ids b) w cso (r))) := by
 unfold poset_declared at hg
 refine enter M noB func43 rfl rfl hM ?_
 intro a s
 replace s := s.es 101 hp01
 replace s := s.es 102 hp11
 apply wR
 refine asg s rfl rfl fun a s => ?_
 apply wN
 apply wQ
 obtain ⟨r1, hr1, hg⟩ := bind_some hg
 apply wL
 refine mv s rfl rfl fun a s => ?_
 refine lc s rfl func41 (by kernel_rfl) (c_poset_supers n _ _ s.lt _ _ _ (s.ft 101 rfl) _ hr1) fun v4 a w hK hp s => ?_
 obtain ⟨bu5a1, rfl, hu5a1⟩ := hp
 replace s := s.add 104 (mapRF (Rep.list Rep.str) bu5a1 (r1)) hu5a1
 refine asg s rfl rfl fun a s => ?_
 apply wN
 apply wR
 refine asg s rfl rfl fun a s => ?_
 apply wN
 apply wQ
 apply wR
 refine mv s rfl rfl fun a s => ?_
 refine qq s rfl (y_lenSlice s rfl underlying27) fun a s => ?_
 refine mv s rfl rfl fun a s => ?_
 apply wN
 obtain ⟨k6, hg, hk6⟩ := jn_some hg
 refine c_post (fun a w => ∃ (out_7 : (List (List UInt8))) (A8 : Option Addr) (c9 : Nat) (cs10 : List Value), k6 out_7 = some r ∧ St (⟨Try.f43.ntmps, M, noB, w0⟩ : Ctx) [(6, sl A8 out_7 c9)] [(700105, Ob.row (A8) ((out_7).length) (c9) 9 1 (cs10))] [(106, rdF Rep.str (cs10) (out_7))] a w) ?_ ?_
 ·apply wp_block
  replace s := s.nilRow 700107 9 1 rfl
  replace s := s.add 108 (rdF Rep.str [] []) (RdAll.nil _ _ _)
  refine c_loop (σ := Nat) (fun m1 a w => ∃ (out_11 : (List (List UInt8))) (t_15 : Nat) (A12 : Option Addr) (c13 : Nat) (cs14 : List Value), poset_declared_L0 n l_ r1 k6 m1 out_11 t_15 = some r ∧ St (⟨Try.f43.ntmps, M, noB, w0⟩ : Ctx) [(5, .map (some bu5a1)), (6, sl A12 out_11 c13), (13, sl Ap11 l_ cp11), (14, vI ((((l_).length : Nat) : Int))), (15, vI (((t_15 : Nat) : Int)))] [(700107, Ob.row (A12) ((out_11).length) (c13) 9 1 (cs14))] [(102, sF Rep.str Ap11 cp11 l_), (104, mapRF (Rep.list Rep.str) bu5a1 (r1)), (108, rdF Rep.str (cs14) (out_11))] a w) (fun m1 => m1) n ⟨([]), (0), (none), (0), ([]), hg, (s.sb rfl rfl rfl)⟩ ?_
  clear s a; rintro m1 a w ⟨out_11, t_15, A12, c13, cs14, hg, s⟩
  rcases m1 with _ | m1
  ·rw [poset_declared_L0] at hg; cases hg
  rw [poset_declared_L0] at hg
  apply wR
  refine qq s rfl (y_lssN (i := t_15) (j := ((l_).length)) s rfl rfl) fun a s => ?_
  apply wN
  apply wQ
  refine c_dec s rfl (fun hc16 => ?_) (fun hc16 => ?_)
  ·replace hg := br_t hg hc16
   have hmx17 := SlR.mx (s.ft 102 rfl)
   apply wp_skip
   apply pN
   apply wQ
   apply wp_block
   apply wQ
   obtain ⟨x19, hx19, hg⟩ := bind_some hg
   apply wL
   obtain ⟨p21, hep21, hpp21⟩ := SlR.elemX (s.ft 102 rfl) hx19
   refine qq s rfl (y_elem (sz := 1) (i := t_15) s rfl rfl underlying27 rfl hep21 rfl (lt_of_get hx19)) fun a s => ?_
   obtain ⟨hlq22, hmq22, csq22, hdq22, hcq22⟩ := hpp21
   obtain ⟨rfl, lq221⟩ := hdq22
   refine qq s rfl (y_ldp1 s rfl hlq22 hmq22 (hcq22 0 _ rfl) underlying9 rfl) fun a s => ?_
   refine asg s rfl rfl fun a s => ?_
   apply wN
   apply wR
   refine mv s rfl rfl fun a s => ?_
   refine mv s rfl rfl fun a s => ?_
   obtain ⟨kvm24, hmm24, hfm24⟩ := mapRF_open (s.ft 104 rfl)
   have hm24 := kvF_getD (R := (Rep.list Rep.str)) (k := x19) (z := .slice none 0 0) (zx := []) hfm24 (by exact ⟨_, _, _, rfl, (SlR.nil_ _ _ _)⟩)
   obtain ⟨Am241, nnm24, cm241, em24, hm241⟩ := hm24
   obtain rfl := hm241.len
   replace s := s.ns 110 hm241
   refine qq s rfl (y_lookupOkFV s rfl rfl hmm24 underlying49 underlying9 rfl em24 (kvF_isSome hfm24)) fun a s => ?_
   refine mv s rfl rfl fun a s => ?_
   refine qq s rfl (y_extract s rfl rfl) fun a s => ?_
   refine qq s rfl (y_extract s rfl rfl) fun a s => ?_
   refine asg s rfl rfl fun a s => ?_
   refine asg s rfl rfl fun a s => ?_
   apply wN
   apply wR
   refine mv s rfl rfl fun a s => ?_
   apply wN
   refine c_cond s rfl (fun hc25 => ?_) (fun hc25 => ?_)
   ·replace hg := br_t hg hc25
    obtain ⟨hk27, hg⟩ := chk_some hg
    apply wL
    refine mv s rfl rfl fun a s => ?_
    refine mv s rfl rfl fun a s => ?_
    refine l_seq rfl (l_buildDense (sz := 1) s 1802 rfl rfl rfl underlying27 rfl rfl rfl rfl rfl rfl rfl fun b30 a w hbb30 hK s => ?_)
    clear hbb30
    replace s := s.add 113 (rdF Rep.str (cellsOfL [vT x19]) ([x19])) (RdAll.cons (by exact ⟨rfl, (by omega)⟩) (RdAll.nil _ _ _))
    have hs32 := row_src (s.wd.holds 1802 _ rfl) (RdAll.one (s.ft 113 rfl))
    refine l_seq rfl (l_append (sz := 1) (by_ := 16) (N := (out_11 ++ [x19]).length) s 700107 rfl rfl rfl underlying27 rfl rfl rfl rfl rfl hs32 (by rw [List.length_append]; try rfl) rfl (rmA hk27 rfl) (rmB hk27) rfl fun Aq31 cq31 a w hA hK s => ?_)
    replace s := s.add 114 (rdF Rep.str (cs14 ++ (cellsOfL [vT x19])) (out_11 ++ [x19])) (RdAll.append (s.ft 108 rfl) (s.ft 113 rfl))
    refine asg s rfl rfl fun a s => ?_
    apply wO
    refine p_inN ?_
    apply pN
    apply wL
    refine qq s rfl (y_addN (i := t_15) (j := 1) s rfl rfl (in64.2 (by omega))) fun a s => ?_
    refine mv s rfl rfl fun a s => ?_
    apply wN
    replace s := s.al 108 114 rfl
    exact ⟨m1, Nat.lt_succ_self _, ⟨(out_11 ++ [x19]), (t_15 + 1), (Aq31), (cq31), (cs14 ++ (cellsOfL [vT x19])), hg, (s.sb rfl rfl rfl)⟩⟩
   replace hg := br_n hg hc25
   apply wp_skip
   refine p_inN ?_
   apply pN
   apply wL
   refine qq s rfl (y_addN (i := t_15) (j := 1) s rfl rfl (in64.2 (by omega))) fun a s => ?_
   refine mv s rfl rfl fun a s => ?_
   apply wN
   replace s := s.al 108 108 rfl
   exact ⟨m1, Nat.lt_succ_self _, ⟨(out_11), (t_15 + 1), (A12), (c13), (cs14), hg, (s.sb rfl rfl rfl)⟩⟩
  replace hg := br_f hg hc16
  apply wp_exit
  refine p_then ?_
  refine p_then ?_
  refine p_in ?_
  apply pN
  replace s := s.al 106 108 rfl
  replace s := s.pk [(700105, 700107)] (by decide)
  exact ⟨(out_11), (A12), (c13), (cs14), hg, (s.sb rfl rfl rfl)⟩
 clear s a; rintro a w ⟨out_7, A8, c9, cs10, hg, s⟩
 subst hk6
 apply wQ
 obtain ⟨r33, hr33, hg⟩ := bind_some hg
 apply wL
 refine mv s rfl rfl fun a s => ?_
 have hT := s.pk [(9200000, 700105)] (by decide)
 replace hT := hT.al 9300000 106 rfl
 refine l_seq rfl (l_callMut (cap := []) hT _ [] (sbA (by rfl)) trivial (by rfl) rfl func57 rfl (by kernel_rfl) rfl rfl (c_slices_Sort_string n _ _ (hT.restLt []) _ out_7 (A8) (c9) (cs10) (hT.wd.lendL _ _ _ (sbA (by rfl)) (keep_sub []) (by rfl) (sbA (by rfl))) r33 hr33) ?_); intro v36 a' w' hK hp hF
 obtain ⟨csm0_0u37, rfl, hWu37⟩ := hp
 have hS2 := St.mk hF (hT.wd.back (sbA (by rfl)) (keep_sub []) (by rfl) hWu37 (by rfl))
 clear s hT hF hWu37 hK; revert hS2; revert w'; revert a'; intro a w s
 replace s := s.al 116 9300000 rfl
 replace s := s.ren [(700105, Ob.row (A8) ((out_7).length) (c9) 9 1 (csm0_0u37))] [9200000] ⟨rfl, trivial⟩ (by decide)
 replace s := s.sub (l' := [(6, .slice (A8) ((out_7).length) (c9)), (31, .slice (A8) ((out_7).length) (c9)), (32, .tuple #[])]) (L' := [(700105, Ob.row (A8) ((out_7).length) (c9) 9 1 (csm0_0u37))]) (D' := [(106, rdF Rep.str (cs10) (out_7)), (116, rdF Rep.str (csm0_0u37) (r33))]) ⟨rfl, rfl, rfl, trivial⟩ ⟨rfl, trivial⟩ ⟨rfl, rfl, trivial⟩
 have hrlu370 := rowN (s.wd.holds 700105 _ rfl) (s.ft 116 rfl) rfl rfl
 replace s := s.eqs (l' := [(6, .slice (A8) ((r33).length) (c9)), (31, .slice (A8) ((r33).length) (c9)), (32, .tuple #[])]) (L' := [(700105, Ob.row (A8) ((r33).length) (c9) 9 1 (csm0_0u37))]) (by simp only [hrlu370]) (by simp only [hrlu370])
 apply wN
 apply wQ
 obtain ⟨r38, hr38, hg⟩ := bind_some hg
 apply wL
 refine mv s rfl rfl fun a s => ?_
 have hT := s.pk [(9200000, 700105)] (by decide)
 replace hT := hT.al 9300000 116 rfl
 refine l_seq rfl (l_callMut (cap := []) hT _ [] (sbA (by rfl)) trivial (by rfl) rfl func58 rfl (by kernel_rfl) rfl rfl (c_slices_Compact_string n _ _ (hT.restLt []) _ r33 (A8) (c9) (csm0_0u37) (hT.wd.lendL _ _ _ (sbA (by rfl)) (keep_sub []) (by rfl) (sbA (by rfl))) r38 hr38) ?_); intro v41 a' w' hK hp hF
 obtain ⟨Aou42, cou42, csou42, rfl, hWu42⟩ := hp
 have hS2 := St.mk hF (hT.wd.back (sbA (by rfl)) (keep_sub []) (by rfl) hWu42 (by rfl))
 clear s hT hF hWu42 hK; revert hS2; revert w'; revert a'; intro a w s
 replace s := s.al 118 9300000 rfl
 replace s := s.ren [(700105, Ob.row (Aou42) ((r38).length) (cou42) 9 1 (csou42))] [9200000] ⟨rfl, trivial⟩ (by decide)
 refine asg s rfl rfl fun a s => ?_
 apply wN
 apply wp_ret
 obtain rfl := Option.some.inj hg
 refine fin1 (fn := Try.f43) s rfl (r_tmp s rfl) ?_
 exact ⟨(Aou42), (cou42), (csou42), rfl, (s.wd.holds 700105 _ rfl), (row_new s (kk := 700105) rfl rfl), (RdAll.own s (kk := 700105) rfl (s.ft 118 rfl))⟩
set_option maxHeartbeats 1000000 in
theorem c_poset_Maximal_1 (n : Nat) (M : Bs) (w0 : World) (hM : ∀ b, M b → b < w0.heap.size) (x_ : (List UInt8)) (lp01 : (x_).length ≤ 9223372036854775807) (bf0 : Nat) (c0_ : (List UInt8)) (lf01 : (c0_).length ≤ 9223372036854775807) (hb0 : BoxR bf0 [.string (bs (c0_))] 9 M w0) (bf1 : Nat) (c1_ : (List (List UInt8))) (Af11 : Option Addr) (cf11 : Nat) (hf11 : SlR Rep.str M w0 Af11 (c1_).length cf11 (c1_)) (hb1 : BoxR bf1 [.slice (Af11) ((c1_).length) (cf11)] 27 M w0) (r : Bool) (hg : poset_Maximal_1 n x_ c0_ c1_ = some r) :
    Calls Try.prog 44 [.string (bs (x_)), .pointer (some ⟨bf0, 0, none⟩), .pointer (some ⟨bf1, 0, none⟩)].toArray w0 (Ret noB w0 fun v w => v = .bool (r)) := by
 unfold poset_Maximal_1 at hg
 refine enter M noB func44 rfl rfl hM ?_
 intro a s
 replace s := s.ebx 101 hb0
 replace s := s.es 102 hf11
 replace s := s.ebx 103 hb1
 apply wR
 refine asg s rfl rfl fun a s => ?_
 apply wN
 apply wQ
 rcases Decidable.em ((x_ : List UInt8) ≠ c0_) with hs1 | hs1
 ·have hs1e := decide_eq_true hs1
  replace hg := br_t hg hs1
  obtain ⟨r2, hr2, hg⟩ := bind_some hg
  apply wL
  refine mv s rfl rfl fun a s => ?_
  refine qq s rfl (y_loadF1 s rfl (s.ft 101 rfl) rfl underlying9 rfl) fun a s => ?_
  refine qq s rfl (yl_b (y_sne s rfl rfl) hs1e) fun a s => ?_
  refine mv s rfl rfl fun a s => ?_
  refine gy s rfl (y_loadF1 s rfl (s.ft 103 rfl) rfl underlying27 rfl) fun a s => ?_
  refine gm s rfl rfl fun a s => ?_
  refine gl s rfl (l_call (cap := []) s rfl func45 rfl (by kernel_rfl) rfl rfl (c_slices_Contains_string n _ _ s.lt _ _ _ (s.ft 102 rfl) _ (by omega) _ hr2) fun v5 a w hK hp s => ?_)
  obtain rfl := hp
  refine qq s rfl (y_pick_t s rfl rfl) fun a s => ?_
  refine asg s rfl rfl fun a s => ?_
  apply wN
  apply wp_ret
  obtain rfl := Option.some.inj hg
  refine fin1 (fn := Try.f44) s rfl (r_tmp s rfl) ?_
  exact rfl
 have hs1e := decide_eq_false hs1
 replace hg := br_f hg hs1
 apply wL
 refine mv s rfl rfl fun a s => ?_
 refine qq s rfl (y_loadF1 s rfl (s.ft 101 rfl) rfl underlying9 rfl) fun a s => ?_
 refine qq s rfl (yl_b (y_sne s rfl rfl) hs1e) fun a s => ?_
 refine mv s rfl rfl fun a s => ?_
 refine gn s rfl fun a s => ?_
 refine gn s rfl fun a s => ?_
 refine gn s rfl fun a s => ?_
 refine qq s rfl (y_pick_f s rfl rfl) fun a s => ?_
 refine asg s rfl rfl fun a s => ?_
 apply wN
 apply wp_ret
 obtain rfl := Option.some.inj hg
 refine fin1 (fn := Try.f44) s rfl (r_tmp s rfl) ?_
 exact rfl
set_option maxHeartbeats 1000000 in
theorem c_slices_ContainsFunc_string (n : Nat) (M : Bs) (w0 : World) (hM : ∀ b, M b → b < w0.heap.size) (s_ : (List (List UInt8))) (Ap01 : Option Addr) (cp01 : Nat) (hp01 : SlR Rep.str M w0 Ap01 (s_).length cp01 (s_)) (f_ : ((List UInt8) → Option Bool)) (Ap11 : FuncId) (cp11 : List Value) (hp11 : FnR Try.prog Ap11 cp11 pre53 post53 (f_) M w0) (r : Bool) (hg : slices_ContainsFunc_string n s_ f_ = some r) :
    Calls Try.prog 46 [.slice (Ap01) ((s_).length) (cp01), .func (.func Ap11) #[] (List.toArray cp11)].toArray w0 (Ret noB w0 fun v w => v = .bool (r)) := by
 unfold slices_ContainsFunc_string at hg
 refine enter M noB func46 rfl rfl hM ?_
 intro a s
 replace s := s.es 101 hp01
 replace s := s.add 102 (fnF Try.prog Ap11 cp11 pre53 post53 (f_)) (by exact Fact.change _ enterM hp11)
 apply wR
 refine asg s rfl rfl fun a s => ?_
 apply wN
 apply wQ
 obtain ⟨r1, hr1, hg⟩ := bind_some hg
 apply wL
 refine mv s rfl rfl fun a s => ?_
 refine mv s rfl rfl fun a s => ?_
 refine lc s rfl func60 (by kernel_rfl) (c_slices_IndexFunc_string n _ _ s.lt _ _ _ (s.ft 101 rfl) _ _ _ (s.ft 102 rfl) _ hr1) fun v4 a w hK hp s => ?_
 obtain rfl := hp
 refine qq s rfl (y_geq s rfl rfl) fun a s => ?_
 refine asg s rfl rfl fun a s => ?_
 apply wN
 apply wp_ret
 obtain rfl := Option.some.inj hg
 refine fin1 (fn := Try.f46) s rfl (r_tmp s rfl) ?_
 exact rfl
set_option maxHeartbeats 1000000 in
theorem c_poset_Maximal (n : Nat) (M : Bs) (w0 : World) (hM : ∀ b, M b → b < w0.heap.size) (d_ : (List TypeDecl)) (Ap01 : Option Addr) (cp01 : Nat) (hp01 : SlR RTypeDecl M w0 Ap01 (d_).length cp01 (d_)) (names_ : (List (List UInt8))) (Ap11 : Option Addr) (cp11 : Nat) (hp11 : SlR Rep.str M w0 Ap11 (names_).length cp11 (names_)) (r : (List (List UInt8))) (hg : poset_Maximal n d_ names_ = some r) :
    Calls Try.prog 24 [.slice (Ap01) ((d_).length) (cp01), .slice (Ap11) ((names_).length) (cp11)].toArray w0 (Ret noB w0 fun v w => ∃ (Aa1 : Option Addr), ∃ (ca1 : Nat), v = .slice (Aa1) ((r).length) (ca1) ∧ (SlR Rep.str M w Aa1 (r).length ca1 (r))) := by
 unfold poset_Maximal at hg
 refine enter M noB func24 rfl rfl hM ?_
 intro a s
 replace s := s.es 101 hp01
 replace s := s.es 102 hp11
 apply wR
 refine asg s rfl rfl fun a s => ?_
 apply wN
 apply wQ
 obtain ⟨r1, hr1, hg⟩ := bind_some hg
 apply wL
 refine mv s rfl rfl fun a s => ?_
 refine mv s rfl rfl fun a s => ?_
 refine l_seq rfl (l_callOwn (cap := []) (post := (fun v ob w' => ∃ Ao co cso, ob = Ob.row Ao (r1).length co 9 1 cso ∧ v = sl Ao r1 co ∧ RdAll Rep.str (fun b => mtb _ _ b ∨ ob.ids b) w' cso (r1))) s 1102 rfl rfl func43 rfl (by kernel_rfl) rfl rfl ((c_poset_declared n _ _ s.lt _ _ _ (s.ft 101 rfl) _ _ _ (s.ft 102 rfl) _ hr1).mono (fun e w' h => by obtain ⟨v, he, hk, Ao, co, cso, hv, ho1, ho2, ho3⟩ := h; exact ⟨v, he, hk, _, ho1, ho2, ⟨Ao, co, cso, rfl, hv, ho3⟩⟩)) fun v5 ob a w hK hp s => ?_)
 obtain ⟨Au4, cu4, csu4, rfl, rfl, hou4⟩ := hp
 replace s := s.add 104 (rdF Rep.str csu4 (r1)) (RdAll.up2 s hou4)
 refine asg s rfl rfl fun a s => ?_
 apply wN
 apply wQ
 obtain ⟨r6, hr6, hg⟩ := bind_some hg
 apply wL
 refine mv s rfl rfl fun a s => ?_
 refine lc s rfl func41 (by kernel_rfl) (c_poset_supers n _ _ s.lt _ _ _ (s.ft 101 rfl) _ hr6) fun v9 a w hK hp s => ?_
 obtain ⟨bu10a1, rfl, hu10a1⟩ := hp
 replace s := s.add 106 (mapRF (Rep.list Rep.str) bu10a1 (r6)) hu10a1
 refine asg s rfl rfl fun a s => ?_
 apply wN
 apply wR
 refine asg s rfl rfl fun a s => ?_
 apply wN
 apply wQ
 apply wR
 refine mv s rfl rfl fun a s => ?_
 refine qq s rfl (y_lenSlice s rfl underlying27) fun a s => ?_
 refine mv s rfl rfl fun a s => ?_
 apply wN
 apply wp_block
 replace s := s.nilRow 700107 9 1 rfl
 replace s := s.add 108 (rdF Rep.str [] []) (RdAll.nil _ _ _)
 refine c_loop (σ := Nat) (fun m1 a w => ∃ (out_11 : (List (List UInt8))) (t_15 : Nat) (A12 : Option Addr) (c13 : Nat) (cs14 : List Value), poset_Maximal_L0 n r1 r6 m1 out_11 t_15 = some r ∧ St (⟨Try.f24.ntmps, M, noB, w0⟩ : Ctx) [(5, sl Au4 r1 cu4), (6, .map (some bu10a1)), (7, sl A12 out_11 c13), (17, sl Au4 r1 cu4), (18, vI ((((r1).length : Nat) : Int))), (19, vI (((t_15 : Nat) : Int)))] [(1102, Ob.row (Au4) ((r1).length) (cu4) 9 1 (csu4)), (700107, Ob.row (A12) ((out_11).length) (c13) 9 1 (cs14))] [(104, rdF Rep.str (csu4) (r1)), (106, mapRF (Rep.list Rep.str) bu10a1 (r6)), (108, rdF Rep.str (cs14) (out_11))] a w) (fun m1 => m1) n ⟨([]), (0), (none), (0), ([]), hg, (s.sb rfl rfl rfl)⟩ ?_
 clear s a; rintro m1 a w ⟨out_11, t_15, A12, c13, cs14, hg, s⟩
 rcases m1 with _ | m1
 ·rw [poset_Maximal_L0] at hg; cases hg
 rw [poset_Maximal_L0] at hg
 apply wR
 refine qq s rfl (y_lssN (i := t_15) (j := ((r1).length)) s rfl rfl) fun a s => ?_
 apply wN
 apply wQ
 refine c_dec s rfl (fun hc16 => ?_) (fun hc16 => ?_)
 ·replace hg := br_t hg hc16
  have hmx17 := row_mx (s.wd.holds 1102 _ rfl)
  apply wp_skip
  apply pN
  apply wQ
  apply wp_block
  apply wQ
  obtain ⟨x19, hx19, hg⟩ := bind_some hg
  apply wL
  obtain ⟨hiq22, bq22, hAq22⟩ := SlR.row1 (s.wd.holds 1102 _ rfl) (s.ft 104 rfl) rfl rfl hx19
  refine qq s rfl (y_rowIndex (sz := 1) (i := t_15) s rfl rfl underlying27 rfl hAq22 rfl hiq22) fun a s => ?_
  have hz23 := (s.ft 104 rfl).at_ _ _ hx19
  obtain ⟨ez23, lz231⟩ := hz23
  refine qq s rfl (y_loadRow1 (kk := 1102) s rfl rfl hAq22 (take1 ez23) underlying9 rfl) fun a s => ?_
  refine l_seq rfl (l_alloc (zs := [vT ([])]) s 1602 rfl rfl rfl rfl fun b24 a w hb hK s => ?_)
  refine l_seq rfl (l_store (n := 1) (cs' := [vT x19]) s 1602 rfl rfl rfl rfl rfl rfl rfl rfl ?_); clear s; intro w hK s; clear hK
  apply wN
  apply wQ
  obtain ⟨r25, hr25, hg⟩ := bind_some hg
  apply wL
  refine mv s rfl rfl fun a s => ?_
  refine qq s rfl (y_loadBox1 (kk := 1602) s rfl rfl rfl underlying9 rfl) fun a s => ?_
  refine lc s rfl func40 (by kernel_rfl) (c_poset_reach n _ _ s.lt _ _ (s.ft 106 rfl) _ (by omega) _ hr25) fun v29 a w hK hp s => ?_
  obtain ⟨Au30a1, cu30a1, rfl, hu30a1⟩ := hp
  replace s := s.ns 110 hu30a1
  refine l_seq rfl (l_alloc (zs := [.slice none 0 0]) s 1703 rfl rfl rfl rfl fun b31 a w hb hK s => ?_)
  refine l_seq rfl (l_store (n := 1) (cs' := [sl Au30a1 r25 cu30a1]) s 1703 rfl rfl rfl rfl rfl rfl rfl rfl ?_); clear s; intro w hK s; clear hK
  apply wN
  apply wR
  replace s := s.freezeBox (L' := [(1102, Ob.row (Au4) ((r1).length) (cu4) 9 1 (csu4)), (1703, Ob.box b31 [sl Au30a1 r25 cu30a1] 27), (700107, Ob.row (A12) ((out_11).length) (c13) 9 1 (cs14))]) 113 1602 rfl ⟨rfl, rfl, rfl, trivial⟩ rfl
  replace s := s.freezeBox (L' := [(1102, Ob.row (Au4) ((r1).length) (cu4) 9 1 (csu4)), (700107, Ob.row (A12) ((out_11).length) (c13) 9 1 (cs14))]) 114 1703 rfl ⟨rfl, rfl, trivial⟩ rfl
  refine qq s rfl (y_makeFunc (xs := [.tmp 9, .tmp 10]) (vs := [vP b24 0, vP b31 0]) s rfl) fun a s => ?_
  refine asg s rfl rfl fun a s => ?_
  apply wN
  apply wQ
  obtain ⟨r32, hr32, hg⟩ := bind_some hg
  apply wL
  refine mv s rfl rfl fun a s => ?_
  refine mv s rfl rfl fun a s => ?_
  have hT := s
  replace hT := hT.fz (R := Rep.str) (kk := 1102) [700107] 116 rfl rfl (hT.ft 104 rfl) rfl
  refine lc s rfl func46 (by kernel_rfl) (c_slices_ContainsFunc_string n _ _ hT.lt _ _ _ (hT.ft 116 rfl) _ _ _ ⟨⟨_, _, func44, rfl, by kernel_rfl⟩, fun M1 w1 hk hm hlt vs x r hp hr => by obtain ⟨rfl, la1⟩ := hp; exact c_poset_Maximal_1 n M1 w1 hlt (x) la1 b24 (x19) (by omega) (Fact.move (boxF b24 [vT x19] 9) hk hm (hT.ft 113 rfl)) b31 (r25) (Au30a1) (cu30a1) (Fact.move (sF Rep.str Au30a1 cu30a1 r25) hk hm (hT.ft 110 rfl)) (Fact.move (boxF b31 [sl Au30a1 r25 cu30a1] 27) hk hm (hT.ft 114 rfl)) r hr⟩ _ hr32) fun v35 a w hK hp s => ?_
  obtain rfl := hp
  refine qq s rfl (y_not s rfl) fun a s => ?_
  apply wN
  refine c_cond s rfl (fun hc37 => ?_) (fun hc37 => ?_)
  ·replace hg := br_t hg hc37
   obtain ⟨hk39, hg⟩ := chk_some hg
   apply wL
   refine mv s rfl rfl fun a s => ?_
   refine qq s rfl (y_loadF1 s rfl (s.ft 113 rfl) rfl underlying9 rfl) fun a s => ?_
   refine l_seq rfl (l_buildDense (sz := 1) s 2002 rfl rfl rfl underlying27 rfl rfl rfl rfl rfl rfl rfl fun b42 a w hbb42 hK s => ?_)
   clear hbb42
   replace s := s.add 119 (rdF Rep.str (cellsOfL [vT x19]) ([x19])) (RdAll.cons (by exact ⟨rfl, (by omega)⟩) (RdAll.nil _ _ _))
   have hs44 := row_src (s.wd.holds 2002 _ rfl) (RdAll.one (s.ft 119 rfl))
   refine l_seq rfl (l_append (sz := 1) (by_ := 16) (N := (out_11 ++ [x19]).length) s 700107 rfl rfl rfl underlying27 rfl rfl rfl rfl rfl hs44 (by rw [List.length_append]; try rfl) rfl (rmA hk39 rfl) (rmB hk39) rfl fun Aq43 cq43 a w hA hK s => ?_)
   replace s := s.add 120 (rdF Rep.str (cs14 ++ (cellsOfL [vT x19])) (out_11 ++ [x19])) (RdAll.append (s.ft 108 rfl) (s.ft 119 rfl))
   refine asg s rfl rfl fun a s => ?_
   apply wO
   refine p_inN ?_
   apply pN
   apply wL
   refine qq s rfl (y_addN (i := t_15) (j := 1) s rfl rfl (in64.2 (by omega))) fun a s => ?_
   refine mv s rfl rfl fun a s => ?_
   apply wN
   replace s := s.al 108 120 rfl
   exact ⟨m1, Nat.lt_succ_self _, ⟨(out_11 ++ [x19]), (t_15 + 1), (Aq43), (cq43), (cs14 ++ (cellsOfL [vT x19])), hg, (s.sb rfl rfl rfl)⟩⟩
  replace hg := br_n hg hc37
  apply wp_skip
  refine p_inN ?_
  apply pN
  apply wL
  refine qq s rfl (y_addN (i := t_15) (j := 1) s rfl rfl (in64.2 (by omega))) fun a s => ?_
  refine mv s rfl rfl fun a s => ?_
  apply wN
  replace s := s.al 108 108 rfl
  exact ⟨m1, Nat.lt_succ_self _, ⟨(out_11), (t_15 + 1), (A12), (c13), (cs14), hg, (s.sb rfl rfl rfl)⟩⟩
 replace hg := br_f hg hc16
 apply wp_exit
 refine p_then ?_
 refine p_then ?_
 refine p_in ?_
 apply pN
 apply wR
 refine mv s rfl rfl fun a s => ?_
 refine asg s rfl rfl fun a s => ?_
 apply wN
 apply wp_ret
 obtain rfl := Option.some.inj hg
 refine fin1 (fn := Try.f24) s rfl (r_tmp s rfl) ?_
 exact ⟨(A12), (c13), rfl, (s.rowOut (R := Rep.str) (kk := 700107) rfl rfl (s.ft 108 rfl))⟩
set_option maxHeartbeats 1000000 in
theorem c_poset_Minimal_1 (n : Nat) (M : Bs) (w0 : World) (hM : ∀ b, M b → b < w0.heap.size) (s_ : (List UInt8)) (lp01 : (s_).length ≤ 9223372036854775807) (bf0 : Nat) (c0_ : (List (List UInt8 × Bool))) (bf01 : Nat) (hf01 : MapR Rep.bool M w0 bf01 (c0_)) (hb0 : BoxR bf0 [.map (some bf01)] 55 M w0) (r : Bool) (hg : poset_Minimal_1 n s_ c0_ = some r) :
    Calls Try.prog 49 [.string (bs (s_)), .pointer (some ⟨bf0, 0, none⟩)].toArray w0 (Ret noB w0 fun v w => v = .bool (r)) := by
 unfold poset_Minimal_1 at hg
 refine enter M noB func49 rfl rfl hM ?_
 intro a s
 replace s := s.add 101 (mapRF Rep.bool bf01 (c0_)) (by exact Fact.change _ enterM hf01)
 replace s := s.ebx 102 hb0
 apply wR
 refine asg s rfl rfl fun a s => ?_
 apply wN
 apply wR
 refine qq s rfl (y_loadF1 s rfl (s.ft 102 rfl) rfl underlying55 rfl) fun a s => ?_
 refine mv s rfl rfl fun a s => ?_
 obtain ⟨kvm2, hmm2, hfm2⟩ := mapRF_open (s.ft 101 rfl)
 have hm2 := kvF_getD (R := Rep.bool) (k := s_) (z := .bool (false)) (zx := false) hfm2 (by exact rfl)
 have em2 := hm2
 refine qq s rfl (y_lookupFV s rfl rfl hmm2 underlying55 underlying9 rfl em2) fun a s => ?_
 refine asg s rfl rfl fun a s => ?_
 apply wN
 apply wp_ret
 obtain rfl := Option.some.inj hg
 refine fin1 (fn := Try.f49) s rfl (r_tmp s rfl) ?_
 exact rfl
set_option maxHeartbeats 1000000 in
theorem c_poset_Minimal (n : Nat) (M : Bs) (w0 : World) (hM : ∀ b, M b → b < w0.heap.size) (d_ : (List TypeDecl)) (Ap01 : Option Addr) (cp01 : Nat) (hp01 : SlR RTypeDecl M w0 Ap01 (d_).length cp01 (d_)) (names_ : (List (List UInt8))) (Ap11 : Option Addr) (cp11 : Nat) (hp11 : SlR Rep.str M w0 Ap11 (names_).length cp11 (names_)) (r : (List (List UInt8))) (hg : poset_Minimal n d_ names_ = some r) :
    Calls Try.prog 26 [.slice (Ap01) ((d_).length) (cp01), .slice (Ap11) ((names_).length) (cp11)].toArray w0 (Ret noB w0 fun v w => ∃ (Aa1 : Option Addr), ∃ (ca1 : Nat), v = .slice (Aa1) ((r).length) (ca1) ∧ (SlR Rep.str M w Aa1 (r).length ca1 (r))) := by
 unfold poset_Minimal at hg
 refine enter M noB func26 rfl rfl hM ?_
 intro a s
 replace s := s.es 101 hp01
 replace s := s.es 102 hp11
 apply wR
 refine asg s rfl rfl fun a s => ?_
 apply wN
 apply wQ
 obtain ⟨r1, hr1, hg⟩ := bind_some hg
 apply wL
 refine mv s rfl rfl fun a s => ?_
 refine mv s rfl rfl fun a s => ?_
 refine l_seq rfl (l_callOwn (cap := []) (post := (fun v ob w' => ∃ Ao co cso, ob = Ob.row Ao (r1).length co 9 1 cso ∧ v = sl Ao r1 co ∧ RdAll Rep.str (fun b => mtb _ _ b ∨ ob.ids b) w' cso (r1))) s 1102 rfl rfl func43 rfl (by kernel_rfl) rfl rfl ((c_poset_declared n _ _ s.lt _ _ _ (s.ft 101 rfl) _ _ _ (s.ft 102 rfl) _ hr1).mono (fun e w' h => by obtain ⟨v, he, hk, Ao, co, cso, hv, ho1, ho2, ho3⟩ := h; exact ⟨v, he, hk, _, ho1, ho2, ⟨Ao, co, cso, rfl, hv, ho3⟩⟩)) fun v5 ob a w hK hp s => ?_)
 obtain ⟨Au4, cu4, csu4, rfl, rfl, hou4⟩ := hp
 replace s := s.add 104 (rdF Rep.str csu4 (r1)) (RdAll.up2 s hou4)
 refine asg s rfl rfl fun a s => ?_
 apply wN
 apply wQ
 obtain ⟨r6, hr6, hg⟩ := bind_some hg
 apply wL
 refine mv s rfl rfl fun a s => ?_
 refine lc s rfl func41 (by kernel_rfl) (c_poset_supers n _ _ s.lt _ _ _ (s.ft 101 rfl) _ hr6) fun v9 a w hK hp s => ?_
 obtain ⟨bu10a1, rfl, hu10a1⟩ := hp
 replace s := s.add 106 (mapRF (Rep.list Rep.str) bu10a1 (r6)) hu10a1
 refine asg s rfl rfl fun a s => ?_
 apply wN
 apply wR
 refine l_seq rfl (l_makeMap (n := 0) s 1300 underlying55 (.inl rfl) rfl rfl fun b13 a w hb hK s => ?_)
 replace s := s.add 108 (kvF Rep.bool ([]) ([])) (KvRel.nil)
 refine l_seq rfl (l_alloc (zs := [.map none]) s 1301 rfl rfl rfl rfl fun b14 a w hb hK s => ?_)
 refine l_seq rfl (l_store (n := 1) (cs' := [.map (some b13)]) s 1301 rfl rfl rfl rfl rfl rfl rfl rfl ?_); clear s; intro w hK s; clear hK
 apply wN
 apply wQ
 apply wR
 refine mv s rfl rfl fun a s => ?_
 refine qq s rfl (y_lenSlice s rfl underlying27) fun a s => ?_
 refine mv s rfl rfl fun a s => ?_
 apply wN
 obtain ⟨k15, hg, hk15⟩ := jn_some hg
 refine c_post (fun a w => ∃ (covered_16 : (List (List UInt8 × Bool))) (kv17 : List (List UInt8 × Value)), k15 covered_16 = some r ∧ St (⟨Try.f26.ntmps, M, noB, w0⟩ : Ctx) [(5, sl Au4 r1 cu4), (7, vP b14 0)] [(1102, Ob.row (Au4) ((r1).length) (cu4) 9 1 (csu4)), (1300, Ob.smap b13 (kv17)), (1301, Ob.box b14 [.map (some b13)] 55)] [(104, rdF Rep.str (csu4) (r1)), (109, kvF Rep.bool (kv17) (covered_16))] a w) ?_ ?_
 ·apply wp_block
  replace s := s.al 110 108 rfl
  refine c_loop (σ := Nat) (fun m1 a w => ∃ (t_18 : Nat) (covered_19 : (List (List UInt8 × Bool))) (kv20 : List (List UInt8 × Value)), poset_Minimal_L0 n r1 r6 k15 m1 t_18 covered_19 = some r ∧ St (⟨Try.f26.ntmps, M, noB, w0⟩ : Ctx) [(5, sl Au4 r1 cu4), (6, .map (some bu10a1)), (7, vP b14 0), (18, sl Au4 r1 cu4), (19, vI ((((r1).length : Nat) : Int))), (20, vI (((t_18 : Nat) : Int)))] [(1102, Ob.row (Au4) ((r1).length) (cu4) 9 1 (csu4)), (1300, Ob.smap b13 (kv20)), (1301, Ob.box b14 [.map (some b13)] 55)] [(104, rdF Rep.str (csu4) (r1)), (106, mapRF (Rep.list Rep.str) bu10a1 (r6)), (110, kvF Rep.bool (kv20) (covered_19))] a w) (fun m1 => m1) n ⟨(0), ([]), ([]), hg, (s.sb rfl rfl rfl)⟩ ?_
  clear s a; rintro m1 a w ⟨t_18, covered_19, kv20, hg, s⟩
  rcases m1 with _ | m1
  ·rw [poset_Minimal_L0] at hg; cases hg
  rw [poset_Minimal_L0] at hg
  apply wR
  refine qq s rfl (y_lssN (i := t_18) (j := ((r1).length)) s rfl rfl) fun a s => ?_
  apply wN
  apply wQ
  refine c_dec s rfl (fun hc21 => ?_) (fun hc21 => ?_)
  ·replace hg := br_t hg hc21
   have hmx22 := row_mx (s.wd.holds 1102 _ rfl)
   apply wp_skip
   apply pN
   apply wQ
   obtain ⟨k23, hg, hk23⟩ := jn_some hg
   refine c_post (fun a w => ∃ (covered_24 : (List (List UInt8 × Bool))) (kv25 : List (List UInt8 × Value)), k23 covered_24 = some r ∧ St (⟨Try.f26.ntmps, M, noB, w0⟩ : Ctx) [(5, sl Au4 r1 cu4), (6, .map (some bu10a1)), (7, vP b14 0), (18, sl Au4 r1 cu4), (19, vI ((((r1).length : Nat) : Int))), (20, vI (((t_18 : Nat) : Int)))] [(1102, Ob.row (Au4) ((r1).length) (cu4) 9 1 (csu4)), (1300, Ob.smap b13 (kv25)), (1301, Ob.box b14 [.map (some b13)] 55)] [(104, rdF Rep.str (csu4) (r1)), (106, mapRF (Rep.list Rep.str) bu10a1 (r6)), (111, kvF Rep.bool (kv25) (covered_24))] a w) ?_ ?_
   ·apply wp_block
    apply wQ
    obtain ⟨x27, hx27, hg⟩ := bind_some hg
    apply wL
    obtain ⟨hiq29, bq29, hAq29⟩ := SlR.row1 (s.wd.holds 1102 _ rfl) (s.ft 104 rfl) rfl rfl hx27
    refine qq s rfl (y_rowIndex (sz := 1) (i := t_18) s rfl rfl underlying27 rfl hAq29 rfl hiq29) fun a s => ?_
    have hz30 := (s.ft 104 rfl).at_ _ _ hx27
    obtain ⟨ez30, lz301⟩ := hz30
    refine qq s rfl (y_loadRow1 (kk := 1102) s rfl rfl hAq29 (take1 ez30) underlying9 rfl) fun a s => ?_
    refine asg s rfl rfl fun a s => ?_
    apply wN
    apply wQ
    obtain ⟨r31, hr31, hg⟩ := bind_some hg
    apply wL
    refine mv s rfl rfl fun a s => ?_
    refine mv s rfl rfl fun a s => ?_
    refine lc s rfl func40 (by kernel_rfl) (c_poset_reach n _ _ s.lt _ _ (s.ft 106 rfl) _ (by omega) _ hr31) fun v34 a w hK hp s => ?_
    obtain ⟨Au35a1, cu35a1, rfl, hu35a1⟩ := hp
    replace s := s.ns 113 hu35a1
    refine qq s rfl (y_lenSlice s rfl underlying27) fun a s => ?_
    refine mv s rfl rfl fun a s => ?_
    apply wN
    apply wp_block
    replace s := s.al 114 110 rfl
    refine c_loop (σ := Nat) (fun m2 a w => ∃ (t_36 : Nat) (covered_37 : (List (List UInt8 × Bool))) (kv38 : List (List UInt8 × Value)), poset_Minimal_L1 n k23 x27 r31 m2 t_36 covered_37 = some r ∧ St (⟨Try.f26.ntmps, M, noB, w0⟩ : Ctx) [(5, sl Au4 r1 cu4), (6, .map (some bu10a1)), (7, vP b14 0), (9, vT x27), (18, sl Au4 r1 cu4), (19, vI ((((r1).length : Nat) : Int))), (20, vI (((t_18 : Nat) : Int))), (26, sl Au35a1 r31 cu35a1), (27, vI ((((r31).length : Nat) : Int))), (28, vI (((t_36 : Nat) : Int)))] [(1102, Ob.row (Au4) ((r1).length) (cu4) 9 1 (csu4)), (1300, Ob.smap b13 (kv38)), (1301, Ob.box b14 [.map (some b13)] 55)] [(104, rdF Rep.str (csu4) (r1)), (106, mapRF (Rep.list Rep.str) bu10a1 (r6)), (113, sF Rep.str Au35a1 cu35a1 r31), (114, kvF Rep.bool (kv38) (covered_37))] a w) (fun m2 => m2) n ⟨(0), (covered_19), (kv20), hg, (s.sb rfl rfl rfl)⟩ ?_
    clear s a; rintro m2 a w ⟨t_36, covered_37, kv38, hg, s⟩
    rcases m2 with _ | m2
    ·rw [poset_Minimal_L1] at hg; cases hg
    rw [poset_Minimal_L1] at hg
    apply wR
    refine qq s rfl (y_lssN (i := t_36) (j := ((r31).length)) s rfl rfl) fun a s => ?_
    apply wN
    apply wQ
    refine c_dec s rfl (fun hc39 => ?_) (fun hc39 => ?_)
    ·replace hg := br_t hg hc39
     have hmx40 := SlR.mx (s.ft 113 rfl)
     apply wp_skip
     apply pN
     apply wQ
     apply wp_block
     apply wQ
     obtain ⟨x42, hx42, hg⟩ := bind_some hg
     apply wL
     obtain ⟨p44, hep44, hpp44⟩ := SlR.elemX (s.ft 113 rfl) hx42
     refine qq s rfl (y_elem (sz := 1) (i := t_36) s rfl rfl underlying27 rfl hep44 rfl (lt_of_get hx42)) fun a s => ?_
     obtain ⟨hlq45, hmq45, csq45, hdq45, hcq45⟩ := hpp44
     obtain ⟨rfl, lq451⟩ := hdq45
     refine qq s rfl (y_ldp1 s rfl hlq45 hmq45 (hcq45 0 _ rfl) underlying9 rfl) fun a s => ?_
     refine asg s rfl rfl fun a s => ?_
     apply wN
     apply wR
     refine mv s rfl rfl fun a s => ?_
     refine mv s rfl rfl fun a s => ?_
     refine qq s rfl (y_sne s rfl rfl) fun a s => ?_
     apply wN
     refine c_dec s rfl (fun hc46 => ?_) (fun hc46 => ?_)
     ·replace hg := br_t hg hc46
      apply wL
      refine qq s rfl (y_loadBox1 (kk := 1301) s rfl rfl rfl underlying55 rfl) fun a s => ?_
      refine mv s rfl rfl fun a s => ?_
      refine l_seq rfl (l_mapUpdate s 1300 rfl rfl rfl rfl underlying55 underlying9 fun w hK s => ?_)
      replace s := s.add 116 (kvF Rep.bool (mset (kv38) (x42) (.bool (true))) (mset (covered_37) (x42) (true))) (kvF_set (s.ft 114 rfl) (by exact rfl))
      apply wO
      refine p_inN ?_
      apply pN
      apply wL
      refine qq s rfl (y_addN (i := t_36) (j := 1) s rfl rfl (in64.2 (by omega))) fun a s => ?_
      refine mv s rfl rfl fun a s => ?_
      apply wN
      replace s := s.al 114 116 rfl
      exact ⟨m2, Nat.lt_succ_self _, ⟨(t_36 + 1), (mset (covered_37) (x42) (true)), (mset (kv38) (x42) (.bool (true))), hg, (s.sb rfl rfl rfl)⟩⟩
     replace hg := br_f hg hc46
     apply wp_skip
     refine p_inN ?_
     apply pN
     apply wL
     refine qq s rfl (y_addN (i := t_36) (j := 1) s rfl rfl (in64.2 (by omega))) fun a s => ?_
     refine mv s rfl rfl fun a s => ?_
     apply wN
     replace s := s.al 114 114 rfl
     exact ⟨m2, Nat.lt_succ_self _, ⟨(t_36 + 1), (covered_37), (kv38), hg, (s.sb rfl rfl rfl)⟩⟩
    replace hg := br_f hg hc39
    apply wp_exit
    refine p_then ?_
    refine p_then ?_
    refine p_in ?_
    refine p_inN ?_
    apply pN
    replace s := s.al 111 114 rfl
    exact ⟨(covered_37), (kv38), hg, (s.sb rfl rfl rfl)⟩
   clear s a; rintro a w ⟨covered_24, kv25, hg, s⟩
   subst hk23
   apply wL
   refine qq s rfl (y_addN (i := t_18) (j := 1) s rfl rfl (in64.2 (by omega))) fun a s => ?_
   refine mv s rfl rfl fun a s => ?_
   apply wN
   replace s := s.al 110 111 rfl
   exact ⟨m1, Nat.lt_succ_self _, ⟨(t_18 + 1), (covered_24), (kv25), hg, (s.sb rfl rfl rfl)⟩⟩
  replace hg := br_f hg hc21
  apply wp_exit
  refine p_then ?_
  refine p_then ?_
  refine p_in ?_
  apply pN
  replace s := s.al 109 110 rfl
  exact ⟨(covered_19), (kv20), hg, (s.sb rfl rfl rfl)⟩
 clear s a; rintro a w ⟨covered_16, kv17, hg, s⟩
 subst hk15
 apply wQ
 obtain ⟨r47, hr47, hg⟩ := bind_some hg
 apply wL
 refine mv s rfl rfl fun a s => ?_
 replace s := s.freezeMapR (R := Rep.bool) (L' := [(1102, Ob.row (Au4) ((r1).length) (cu4) 9 1 (csu4)), (1301, Ob.box b14 [.map (some b13)] 55)]) 120 1300 rfl (s.ft 109 rfl) ⟨rfl, rfl, trivial⟩ rfl
 replace s := s.freezeBox (L' := [(1102, Ob.row (Au4) ((r1).length) (cu4) 9 1 (csu4))]) 121 1301 rfl ⟨rfl, trivial⟩ rfl
 refine qq s rfl (y_makeFunc (xs := [.tmp 7]) (vs := [vP b14 0]) s rfl) fun a s => ?_
 have hT := s.pk [(9200000, 1102)] (by decide)
 replace hT := hT.al 9300000 104 rfl
 replace hT := hT.add 9400000 (fnF Try.prog 49 [vP b14 0] pre53 post53 ((fun p => poset_Minimal_1 n p covered_16))) ⟨⟨_, _, func49, rfl, by kernel_rfl⟩, fun M1 w1 hk hm hlt vs x r hp hr => by obtain ⟨rfl, la1⟩ := hp; exact c_poset_Minimal_1 n M1 w1 hlt (x) la1 b14 (covered_16) b13 (Fact.move (mapRF Rep.bool b13 (covered_16)) hk hm (hT.ft 120 rfl)) (Fact.move (boxF b14 [.map (some b13)] 55) hk hm (hT.ft 121 rfl)) r hr⟩
 refine l_seq rfl (l_callMut (cap := []) hT _ [] (sbA (by rfl)) trivial (by rfl) rfl func48 rfl (by kernel_rfl) rfl rfl (c_slices_DeleteFunc_string n _ _ (hT.restLt []) _ r1 (Au4) (cu4) (csu4) (fun p => poset_Minimal_1 n p covered_16) (49) ([vP b14 0]) (hT.wd.lendL _ _ _ (sbA (by rfl)) (keep_sub []) (by rfl) (sbA (by rfl))) r47 hr47) ?_); intro v50 a' w' hK hp hF
 obtain ⟨Aou51, cou51, csou51, rfl, hWu51⟩ := hp
 have hS2 := St.mk hF (hT.wd.back (sbA (by rfl)) (keep_sub []) (by rfl) hWu51 (by rfl))
 clear s hT hF hWu51 hK; revert hS2; revert w'; revert a'; intro a w s
 replace s := s.al 122 9300000 rfl
 replace s := s.ren [(1102, Ob.row (Aou51) ((r47).length) (cou51) 9 1 (csou51))] [9200000] ⟨rfl, trivial⟩ (by decide)
 refine asg s rfl rfl fun a s => ?_
 apply wN
 apply wp_ret
 obtain rfl := Option.some.inj hg
 refine fin1 (fn := Try.f26) s rfl (r_tmp s rfl) ?_
 exact ⟨(Aou51), (cou51), rfl, (s.rowOut (R := Rep.str) (kk := 1102) rfl rfl (s.ft 122 rfl))⟩
set_option maxHeartbeats 1000000 in
theorem c_law03_decl (n : Nat) (M : Bs) (w0 : World) (hM : ∀ b, M b → b < w0.heap.size) (name_ : (List UInt8)) (lp01 : (name_).length ≤ 9223372036854775807) (supers_ : (List (List UInt8))) (Ap11 : Option Addr) (cp11 : Nat) (hp11 : SlR Rep.str M w0 Ap11 (supers_).length cp11 (supers_)) (r : TypeDecl) (hg : law03_decl n name_ supers_ = some r) :
    Calls Try.prog 30 [.string (bs (name_)), .slice (Ap11) ((supers_).length) (cp11)].toArray w0 (Ret noB w0 fun v w => ∃ (Aa2 : Option Addr), ∃ (ca2 : Nat), ∃ (Aa3 : Option Addr), ∃ (ca3 : Nat), v = .agg #[.string (bs (r.Name)), .slice (Aa2) ((r.Supers).length) (ca2), .slice (Aa3) ((r.Feats).length) (ca3)] ∧ ((r.Name).length ≤ 9223372036854775807) ∧ (SlR Rep.str M w Aa2 (r.Supers).length ca2 (r.Supers)) ∧ (SlR RFeatDecl M w Aa3 (r.Feats).length ca3 (r.Feats))) := by
 unfold law03_decl at hg
 refine enter M noB func30 rfl rfl hM ?_
 intro a s
 replace s := s.es 101 hp11
 apply wR
 refine l_seq rfl (l_alloc (zs := [vT ([]), .slice none 0 0, .slice none 0 0]) s 1000 rfl rfl rfl rfl fun b2 a w hb hK s => ?_)
 apply wN
 apply wR
 refine mv s rfl rfl fun a s => ?_
 refine mv s rfl rfl fun a s => ?_
 refine qq s rfl (y_build (parts := [(0, .tmp 5), (1, .tmp 6)]) (ps := [(0, vT name_), (1, sl Ap11 supers_ cp11)]) (cells := #[vT name_, sl Ap11 supers_ cp11, .slice none 0 0]) s rfl (by kernel_rfl)) fun a s => ?_
 refine l_seq rfl (l_store (n := 3) (cs' := [vT name_, sl Ap11 supers_ cp11, .slice none 0 0]) s 1000 rfl rfl rfl rfl rfl rfl rfl rfl ?_); clear s; intro w hK s; clear hK
 apply wN
 apply wp_ret
 obtain rfl := Option.some.inj hg
 refine fin1 (fn := Try.f30) s rfl (r_cell (kk := 1000) (n := 3) (vs := [vT name_, sl Ap11 supers_ cp11, .slice none 0 0]) s rfl rfl underlying40 rfl rfl rfl rfl) ?_
 exact ⟨(Ap11), (cp11), (none), (0), rfl, (by omega), (s.out (k := 101) rfl), (SlR.nil_ _ _ _)⟩
set_option maxHeartbeats 1000000 in
theorem c_law03_exampleHolds (n : Nat) (M : Bs) (w0 : World) (hM : ∀ b, M b → b < w0.heap.size)  (r : Bool) (hg : law03_exampleHolds n = some r) :
    Calls Try.prog 12 [].toArray w0 (Ret noB w0 fun v w => v = .bool (r)) := by
 unfold law03_exampleHolds at hg
 refine enter M noB func12 rfl rfl hM ?_
 intro a s
 apply wR
 refine asg s rfl rfl fun a s => ?_
 apply wN
 apply wQ
 obtain ⟨r2, hr2, hg⟩ := bind_some hg
 obtain ⟨r5, hr5, hg⟩ := bind_some hg
 obtain ⟨r9, hr9, hg⟩ := bind_some hg
 obtain ⟨r13, hr13, hg⟩ := bind_some hg
 apply wL
 refine l_seq rfl (l_buildDense (sz := 1) s 1100 rfl rfl rfl underlying27 rfl rfl rfl rfl rfl rfl rfl fun b17 a w hbb17 hK s => ?_)
 clear hbb17
 replace s := s.add 115 (rdF Rep.str (cellsOfL [vT ([97]), vT ([98])]) ([[97], [98]])) (RdAll.cons (by exact ⟨rfl, (Nat.le_of_ble_eq_true (by rfl))⟩) (RdAll.cons (by exact ⟨rfl, (Nat.le_of_ble_eq_true (by rfl))⟩) (RdAll.nil _ _ _)))
 replace s := s.freeze (R := Rep.str) (kk := 1100) (L' := []) 116 rfl rfl (s.ft 115 rfl) trivial rfl
 refine lc s rfl func30 (by kernel_rfl) (c_law03_decl n _ _ s.lt _ (Nat.le_of_ble_eq_true (by rfl)) [[97], [98]] (some ⟨b17, 0, none⟩) (2) (s.ft 116 rfl) _ hr2) fun v18 a w hK hp s => ?_
 obtain ⟨Au19a2, cu19a2, Au19a3, cu19a3, rfl, lu19a1, hu19a2, hu19a3⟩ := hp
 replace s := s.ns 117 hu19a2
 replace s := s.ns 118 hu19a3
 refine lc s rfl func30 (by kernel_rfl) (c_law03_decl n _ _ s.lt _ (Nat.le_of_ble_eq_true (by rfl)) [] (none) (0) (SlR.nil_ _ _ _) _ hr5) fun v20 a w hK hp s => ?_
 obtain ⟨Au21a2, cu21a2, Au21a3, cu21a3, rfl, lu21a1, hu21a2, hu21a3⟩ := hp
 replace s := s.ns 119 hu21a2
 replace s := s.ns 120 hu21a3
 refine l_seq rfl (l_buildDense (sz := 1) s 1103 rfl rfl rfl underlying27 rfl rfl rfl rfl rfl rfl rfl fun b22 a w hbb22 hK s => ?_)
 clear hbb22
 replace s := s.add 121 (rdF Rep.str (cellsOfL [vT ([116])]) ([[116]])) (RdAll.cons (by exact ⟨rfl, (Nat.le_of_ble_eq_true (by rfl))⟩) (RdAll.nil _ _ _))
 replace s := s.freeze (R := Rep.str) (kk := 1103) (L' := []) 122 rfl rfl (s.ft 121 rfl) trivial rfl
 refine lc s rfl func30 (by kernel_rfl) (c_law03_decl n _ _ s.lt _ (Nat.le_of_ble_eq_true (by rfl)) [[116]] (some ⟨b22, 0, none⟩) (1) (s.ft 122 rfl) _ hr9) fun v23 a w hK hp s => ?_
 obtain ⟨Au24a2, cu24a2, Au24a3, cu24a3, rfl, lu24a1, hu24a2, hu24a3⟩ := hp
 replace s := s.ns 123 hu24a2
 replace s := s.ns 124 hu24a3
 refine l_seq rfl (l_buildDense (sz := 1) s 1105 rfl rfl rfl underlying27 rfl rfl rfl rfl rfl rfl rfl fun b25 a w hbb25 hK s => ?_)
 clear hbb25
 replace s := s.add 125 (rdF Rep.str (cellsOfL [vT ([116])]) ([[116]])) (RdAll.cons (by exact ⟨rfl, (Nat.le_of_ble_eq_true (by rfl))⟩) (RdAll.nil _ _ _))
 replace s := s.freeze (R := Rep.str) (kk := 1105) (L' := []) 126 rfl rfl (s.ft 125 rfl) trivial rfl
 refine lc s rfl func30 (by kernel_rfl) (c_law03_decl n _ _ s.lt _ (Nat.le_of_ble_eq_true (by rfl)) [[116]] (some ⟨b25, 0, none⟩) (1) (s.ft 126 rfl) _ hr13) fun v26 a w hK hp s => ?_
 obtain ⟨Au27a2, cu27a2, Au27a3, cu27a3, rfl, lu27a1, hu27a2, hu27a3⟩ := hp
 replace s := s.ns 127 hu27a2
 replace s := s.ns 128 hu27a3
 refine l_seq rfl (l_buildDense (sz := 3) s 1107 rfl rfl rfl underlying22 rfl rfl rfl rfl rfl rfl rfl fun b28 a w hbb28 hK s => ?_)
 clear hbb28
 refine asg s rfl rfl fun a s => ?_
 apply wN
 apply wQ
 obtain ⟨r29, hr29, hg⟩ := bind_some hg
 apply wL
 refine mv s rfl rfl fun a s => ?_
 replace s := s.add 132 (rdF RTypeDecl (cellsOfL [.agg #[vT r2.Name, sl Au19a2 r2.Supers cu19a2, sl Au19a3 r2.Feats cu19a3], .agg #[vT r5.Name, sl Au21a2 r5.Supers cu21a2, sl Au21a3 r5.Feats cu21a3], .agg #[vT r9.Name, sl Au24a2 r9.Supers cu24a2, sl Au24a3 r9.Feats cu24a3], .agg #[vT r13.Name, sl Au27a2 r13.Supers cu27a2, sl Au27a3 r13.Feats cu27a3]]) ([r2, r5, r9, r13])) (RdAll.cons (by exact (RTypeDecl.mk' (x := r2) (by omega) (s.ft 117 rfl) (s.ft 118 rfl))) (RdAll.cons (by exact (RTypeDecl.mk' (x := r5) (by omega) (s.ft 119 rfl) (s.ft 120 rfl))) (RdAll.cons (by exact (RTypeDecl.mk' (x := r9) (by omega) (s.ft 123 rfl) (s.ft 124 rfl))) (RdAll.cons (by exact (RTypeDecl.mk' (x := r13) (by omega) (s.ft 127 rfl) (s.ft 128 rfl))) (RdAll.nil _ _ _)))))
 replace s := s.freeze (R := RTypeDecl) (kk := 1107) (L' := []) 133 rfl rfl (s.ft 132 rfl) trivial rfl
 refine lc s rfl func15 (by kernel_rfl) (c_poset_Order n _ _ s.lt [r2, r5, r9, r13] (some ⟨b28, 0, none⟩) (4) (s.ft 133 rfl) _ hr29) fun v32 a w hK hp s => ?_
 obtain ⟨Au33a1, cu33a1, rfl, hu33a1⟩ := hp
 replace s := s.ns 134 hu33a1
 refine mv s rfl rfl fun a s => ?_
 refine qq s rfl (y_extract s rfl rfl) fun a s => ?_
 refine qq s rfl (y_extract s rfl rfl) fun a s => ?_
 refine asg s rfl rfl fun a s => ?_
 refine asg s rfl rfl fun a s => ?_
 apply wN
 apply wQ
 apply wQ
 obtain ⟨k34, hg, hk34⟩ := jn_some hg
 refine c_post (fun a w => ∃ (t_35 : Bool), k34 t_35 = some r ∧ St (⟨Try.f12.ntmps, M, noB, w0⟩ : Ctx) [(1, .slice (some ⟨b28, 0, none⟩) (4) (4)), (39, .bool (t_35))] [] [(133, slF RTypeDecl (some ⟨b28, 0, none⟩) (4) (4) ([r2, r5, r9, r13]))] a w) ?_ ?_
 ·rcases Decidable.em (r29.2 ≠ 0) with hs36 | hs36
  ·have hs36e := decide_eq_true hs36
   replace hg := br_t hg hs36
   apply wL
   refine mv s rfl rfl fun a s => ?_
   refine qq s rfl (yl_b (y_neq s rfl rfl) hs36e) fun a s => ?_
   refine mv s rfl rfl fun a s => ?_
   refine gn s rfl fun a s => ?_
   refine gn s rfl fun a s => ?_
   refine gn s rfl fun a s => ?_
   refine gn s rfl fun a s => ?_
   refine qq s rfl (y_pick_t s rfl rfl) fun a s => ?_
   refine mv s rfl rfl fun a s => ?_
   refine gn s rfl fun a s => ?_
   refine gn s rfl fun a s => ?_
   refine gn s rfl fun a s => ?_
   refine gn s rfl fun a s => ?_
   refine gn s rfl fun a s => ?_
   refine qq s rfl (y_pick_t s rfl rfl) fun a s => ?_
   refine mv s rfl rfl fun a s => ?_
   refine gn s rfl fun a s => ?_
   refine gn s rfl fun a s => ?_
   refine gn s rfl fun a s => ?_
   refine gn s rfl fun a s => ?_
   refine gn s rfl fun a s => ?_
   refine qq s rfl (y_pick_t s rfl rfl) fun a s => ?_
   apply wN
   exact ⟨(true), hg, (s.sb rfl rfl rfl)⟩
  have hs36e := decide_eq_false hs36
  replace hg := br_f hg hs36
  obtain ⟨r38, hr38, hg⟩ := bind_some hg
  rcases Bool.eq_false_or_eq_true (!(r38)) with hs41 | hs41
  ·replace hg := br_t hg hs41
   apply wL
   refine mv s rfl rfl fun a s => ?_
   refine qq s rfl (yl_b (y_neq s rfl rfl) hs36e) fun a s => ?_
   refine mv s rfl rfl fun a s => ?_
   refine gm s rfl rfl fun a s => ?_
   refine gl s rfl (l_buildDense (sz := 1) s 1304 rfl rfl rfl underlying27 rfl rfl rfl rfl rfl rfl rfl fun b42 a w hbb42 hK s => ?_)
   clear hbb42
   replace s := s.add 137 (rdF Rep.str (cellsOfL [vT ([116]), vT ([97]), vT ([98]), vT ([99])]) ([[116], [97], [98], [99]])) (RdAll.cons (by exact ⟨rfl, (Nat.le_of_ble_eq_true (by rfl))⟩) (RdAll.cons (by exact ⟨rfl, (Nat.le_of_ble_eq_true (by rfl))⟩) (RdAll.cons (by exact ⟨rfl, (Nat.le_of_ble_eq_true (by rfl))⟩) (RdAll.cons (by exact ⟨rfl, (Nat.le_of_ble_eq_true (by rfl))⟩) (RdAll.nil _ _ _)))))
   have hT := s
   replace hT := hT.fz (R := Rep.str) (kk := 1304) [] 138 rfl rfl (hT.ft 137 rfl) rfl
   refine gl s rfl (l_call (cap := []) s rfl func17 rfl (by kernel_rfl) rfl rfl (c_r03_SameStrings n _ _ hT.lt _ _ _ (hT.ft 134 rfl) [[116], [97], [98], [99]] (some ⟨b42, 0, none⟩) (4) (hT.ft 138 rfl) _ hr38) fun v43 a w hK hp s => ?_)
   obtain rfl := hp
   refine gy s rfl (yl_b (y_not s rfl) hs41) fun a s => ?_
   refine qq s rfl (y_pick_f s rfl rfl) fun a s => ?_
   refine mv s rfl rfl fun a s => ?_
   refine gn s rfl fun a s => ?_
   refine gn s rfl fun a s => ?_
   refine gn s rfl fun a s => ?_
   refine gn s rfl fun a s => ?_
   refine gn s rfl fun a s => ?_
   refine qq s rfl (y_pick_t s rfl rfl) fun a s => ?_
   refine mv s rfl rfl fun a s => ?_
   refine gn s rfl fun a s => ?_
   refine gn s rfl fun a s => ?_
   refine gn s rfl fun a s => ?_
   refine gn s rfl fun a s => ?_
   refine gn s rfl fun a s => ?_
   refine qq s rfl (y_pick_t s rfl rfl) fun a s => ?_
   apply wN
   exact ⟨(true), hg, (s.sb rfl rfl rfl)⟩
  replace hg := br_n hg hs41
  obtain ⟨r45, hr45, hg⟩ := bind_some hg
  obtain ⟨r49, hr49, hg⟩ := bind_some hg
  rcases Bool.eq_false_or_eq_true (!(r49)) with hs52 | hs52
  ·replace hg := br_t hg hs52
   apply wL
   refine mv s rfl rfl fun a s => ?_
   refine qq s rfl (yl_b (y_neq s rfl rfl) hs36e) fun a s => ?_
   refine mv s rfl rfl fun a s => ?_
   refine gm s rfl rfl fun a s => ?_
   refine gl s rfl (l_buildDense (sz := 1) s 1304 rfl rfl rfl underlying27 rfl rfl rfl rfl rfl rfl rfl fun b53 a w hbb53 hK s => ?_)
   clear hbb53
   replace s := s.add 142 (rdF Rep.str (cellsOfL [vT ([116]), vT ([97]), vT ([98]), vT ([99])]) ([[116], [97], [98], [99]])) (RdAll.cons (by exact ⟨rfl, (Nat.le_of_ble_eq_true (by rfl))⟩) (RdAll.cons (by exact ⟨rfl, (Nat.le_of_ble_eq_true (by rfl))⟩) (RdAll.cons (by exact ⟨rfl, (Nat.le_of_ble_eq_true (by rfl))⟩) (RdAll.cons (by exact ⟨rfl, (Nat.le_of_ble_eq_true (by rfl))⟩) (RdAll.nil _ _ _)))))
   have hT := s
   replace hT := hT.fz (R := Rep.str) (kk := 1304) [] 143 rfl rfl (hT.ft 142 rfl) rfl
   refine gl s rfl (l_call (cap := []) s rfl func17 rfl (by kernel_rfl) rfl rfl (c_r03_SameStrings n _ _ hT.lt _ _ _ (hT.ft 134 rfl) [[116], [97], [98], [99]] (some ⟨b53, 0, none⟩) (4) (hT.ft 143 rfl) _ hr38) fun v54 a w hK hp s => ?_)
   obtain rfl := hp
   refine gy s rfl (yl_b (y_not s rfl) hs41) fun a s => ?_
   refine qq s rfl (y_pick_f s rfl rfl) fun a s => ?_
   refine mv s rfl rfl fun a s => ?_
   refine gm s rfl rfl fun a s => ?_
   refine gl s rfl (l_call (cap := []) s rfl func20 rfl (by kernel_rfl) rfl rfl (c_poset_Above n _ _ s.lt [r2, r5, r9, r13] (some ⟨b28, 0, none⟩) (4) (s.ft 133 rfl) _ (Nat.le_of_ble_eq_true (by rfl)) _ hr45) fun v56 a w hK hp s => ?_)
   obtain ⟨Au57a1, cu57a1, rfl, hu57a1⟩ := hp
   replace s := s.ns 144 hu57a1
   refine gl s rfl (l_buildDense (sz := 1) s 1311 rfl rfl rfl underlying27 rfl rfl rfl rfl rfl rfl rfl fun b58 a w hbb58 hK s => ?_)
   clear hbb58
   replace s := s.add 145 (rdF Rep.str (cellsOfL [vT ([97]), vT ([98]), vT ([99]), vT ([116])]) ([[97], [98], [99], [116]])) (RdAll.cons (by exact ⟨rfl, (Nat.le_of_ble_eq_true (by rfl))⟩) (RdAll.cons (by exact ⟨rfl, (Nat.le_of_ble_eq_true (by rfl))⟩) (RdAll.cons (by exact ⟨rfl, (Nat.le_of_ble_eq_true (by rfl))⟩) (RdAll.cons (by exact ⟨rfl, (Nat.le_of_ble_eq_true (by rfl))⟩) (RdAll.nil _ _ _)))))
   have hT := s
   replace hT := hT.fz (R := Rep.str) (kk := 1311) [1304] 146 rfl rfl (hT.ft 145 rfl) rfl
   refine gl s rfl (l_call (cap := []) s rfl func17 rfl (by kernel_rfl) rfl rfl (c_r03_SameStrings n _ _ hT.lt _ _ _ (hT.ft 144 rfl) [[97], [98], [99], [116]] (some ⟨b58, 0, none⟩) (4) (hT.ft 146 rfl) _ hr49) fun v59 a w hK hp s => ?_)
   obtain rfl := hp
   refine gy s rfl (yl_b (y_not s rfl) hs52) fun a s => ?_
   refine qq s rfl (y_pick_f s rfl rfl) fun a s => ?_
   refine mv s rfl rfl fun a s => ?_
   refine gn s rfl fun a s => ?_
   refine gn s rfl fun a s => ?_
   refine gn s rfl fun a s => ?_
   refine gn s rfl fun a s => ?_
   refine gn s rfl fun a s => ?_
   refine qq s rfl (y_pick_t s rfl rfl) fun a s => ?_
   apply wN
   exact ⟨(true), hg, (s.sb rfl rfl rfl)⟩
  replace hg := br_n hg hs52
  obtain ⟨r61, hr61, hg⟩ := bind_some hg
  obtain ⟨r65, hr65, hg⟩ := bind_some hg
  apply wL
  refine mv s rfl rfl fun a s => ?_
  refine qq s rfl (yl_b (y_neq s rfl rfl) hs36e) fun a s => ?_
  refine mv s rfl rfl fun a s => ?_
  refine gm s rfl rfl fun a s => ?_
  refine gl s rfl (l_buildDense (sz := 1) s 1304 rfl rfl rfl underlying27 rfl rfl rfl rfl rfl rfl rfl fun b68 a w hbb68 hK s => ?_)
  clear hbb68
  replace s := s.add 150 (rdF Rep.str (cellsOfL [vT ([116]), vT ([97]), vT ([98]), vT ([99])]) ([[116], [97], [98], [99]])) (RdAll.cons (by exact ⟨rfl, (Nat.le_of_ble_eq_true (by rfl))⟩) (RdAll.cons (by exact ⟨rfl, (Nat.le_of_ble_eq_true (by rfl))⟩) (RdAll.cons (by exact ⟨rfl, (Nat.le_of_ble_eq_true (by rfl))⟩) (RdAll.cons (by exact ⟨rfl, (Nat.le_of_ble_eq_true (by rfl))⟩) (RdAll.nil _ _ _)))))
  have hT := s
  replace hT := hT.fz (R := Rep.str) (kk := 1304) [] 151 rfl rfl (hT.ft 150 rfl) rfl
  refine gl s rfl (l_call (cap := []) s rfl func17 rfl (by kernel_rfl) rfl rfl (c_r03_SameStrings n _ _ hT.lt _ _ _ (hT.ft 134 rfl) [[116], [97], [98], [99]] (some ⟨b68, 0, none⟩) (4) (hT.ft 151 rfl) _ hr38) fun v69 a w hK hp s => ?_)
  obtain rfl := hp
  refine gy s rfl (yl_b (y_not s rfl) hs41) fun a s => ?_
  refine qq s rfl (y_pick_f s rfl rfl) fun a s => ?_
  refine mv s rfl rfl fun a s => ?_
  refine gm s rfl rfl fun a s => ?_
  refine gl s rfl (l_call (cap := []) s rfl func20 rfl (by kernel_rfl) rfl rfl (c_poset_Above n _ _ s.lt [r2, r5, r9, r13] (some ⟨b28, 0, none⟩) (4) (s.ft 133 rfl) _ (Nat.le_of_ble_eq_true (by rfl)) _ hr45) fun v71 a w hK hp s => ?_)
  obtain ⟨Au72a1, cu72a1, rfl, hu72a1⟩ := hp
  replace s := s.ns 152 hu72a1
  refine gl s rfl (l_buildDense (sz := 1) s 1311 rfl rfl rfl underlying27 rfl rfl rfl rfl rfl rfl rfl fun b73 a w hbb73 hK s => ?_)
  clear hbb73
  replace s := s.add 153 (rdF Rep.str (cellsOfL [vT ([97]), vT ([98]), vT ([99]), vT ([116])]) ([[97], [98], [99], [116]])) (RdAll.cons (by exact ⟨rfl, (Nat.le_of_ble_eq_true (by rfl))⟩) (RdAll.cons (by exact ⟨rfl, (Nat.le_of_ble_eq_true (by rfl))⟩) (RdAll.cons (by exact ⟨rfl, (Nat.le_of_ble_eq_true (by rfl))⟩) (RdAll.cons (by exact ⟨rfl, (Nat.le_of_ble_eq_true (by rfl))⟩) (RdAll.nil _ _ _)))))
  have hT := s
  replace hT := hT.fz (R := Rep.str) (kk := 1311) [1304] 154 rfl rfl (hT.ft 153 rfl) rfl
  refine gl s rfl (l_call (cap := []) s rfl func17 rfl (by kernel_rfl) rfl rfl (c_r03_SameStrings n _ _ hT.lt _ _ _ (hT.ft 152 rfl) [[97], [98], [99], [116]] (some ⟨b73, 0, none⟩) (4) (hT.ft 154 rfl) _ hr49) fun v74 a w hK hp s => ?_)
  obtain rfl := hp
  refine gy s rfl (yl_b (y_not s rfl) hs52) fun a s => ?_
  refine qq s rfl (y_pick_f s rfl rfl) fun a s => ?_
  refine mv s rfl rfl fun a s => ?_
  refine gm s rfl rfl fun a s => ?_
  refine gl s rfl (l_call (cap := []) s rfl func22 rfl (by kernel_rfl) rfl rfl (c_poset_Below n _ _ s.lt [r2, r5, r9, r13] (some ⟨b28, 0, none⟩) (4) (s.ft 133 rfl) _ (Nat.le_of_ble_eq_true (by rfl)) _ hr61) fun v76 a w hK hp s => ?_)
  obtain ⟨Au77a1, cu77a1, rfl, hu77a1⟩ := hp
  replace s := s.ns 155 hu77a1
  refine gl s rfl (l_buildDense (sz := 1) s 1318 rfl rfl rfl underlying27 rfl rfl rfl rfl rfl rfl rfl fun b78 a w hbb78 hK s => ?_)
  clear hbb78
  replace s := s.add 156 (rdF Rep.str (cellsOfL [vT ([97]), vT ([99])]) ([[97], [99]])) (RdAll.cons (by exact ⟨rfl, (Nat.le_of_ble_eq_true (by rfl))⟩) (RdAll.cons (by exact ⟨rfl, (Nat.le_of_ble_eq_true (by rfl))⟩) (RdAll.nil _ _ _)))
  have hT := s
  replace hT := hT.fz (R := Rep.str) (kk := 1318) [1304, 1311] 157 rfl rfl (hT.ft 156 rfl) rfl
  refine gl s rfl (l_call (cap := []) s rfl func17 rfl (by kernel_rfl) rfl rfl (c_r03_SameStrings n _ _ hT.lt _ _ _ (hT.ft 155 rfl) [[97], [99]] (some ⟨b78, 0, none⟩) (2) (hT.ft 157 rfl) _ hr65) fun v79 a w hK hp s => ?_)
  obtain rfl := hp
  refine gy s rfl (y_not s rfl) fun a s => ?_
  refine qq s rfl (y_pick_f s rfl rfl) fun a s => ?_
  apply wN
  exact ⟨(!(r65)), hg, (s.sb rfl rfl rfl)⟩
 clear s a; rintro a w ⟨t_35, hg, s⟩
 subst hk34
 refine c_cond s rfl (fun hc81 => ?_) (fun hc81 => ?_)
 ·replace hg := br_t hg hc81
  apply wR
  refine asg s rfl rfl fun a s => ?_
  apply wN
  apply wp_ret
  refine p_thenR ?_
  obtain rfl := Option.some.inj hg
  refine fin1 (fn := Try.f12) s rfl (r_tmp s rfl) ?_
  exact rfl
 replace hg := br_n hg hc81
 apply wp_skip
 apply pN
 apply wQ
 apply wQ
 obtain ⟨k82, hg, hk82⟩ := jn_some hg
 refine c_post (fun a w => ∃ (t_83 : Bool), k82 t_83 = some r ∧ St (⟨Try.f12.ntmps, M, noB, w0⟩ : Ctx) [(53, .bool (t_83))] [] [] a w) ?_ ?_
 ·obtain ⟨r85, hr85, hg⟩ := bind_some hg
  obtain ⟨r89, hr89, hg⟩ := bind_some hg
  rcases Bool.eq_false_or_eq_true (!(r89)) with hs92 | hs92
  ·replace hg := br_t hg hs92
   apply wL
   refine mv s rfl rfl fun a s => ?_
   refine l_seq rfl (l_buildDense (sz := 1) s 1501 rfl rfl rfl underlying27 rfl rfl rfl rfl rfl rfl rfl fun b93 a w hbb93 hK s => ?_)
   clear hbb93
   replace s := s.add 163 (rdF Rep.str (cellsOfL [vT ([98]), vT ([97]), vT ([99])]) ([[98], [97], [99]])) (RdAll.cons (by exact ⟨rfl, (Nat.le_of_ble_eq_true (by rfl))⟩) (RdAll.cons (by exact ⟨rfl, (Nat.le_of_ble_eq_true (by rfl))⟩) (RdAll.cons (by exact ⟨rfl, (Nat.le_of_ble_eq_true (by rfl))⟩) (RdAll.nil _ _ _))))
   replace s := s.freeze (R := Rep.str) (kk := 1501) (L' := []) 164 rfl rfl (s.ft 163 rfl) trivial rfl
   refine lc s rfl func26 (by kernel_rfl) (c_poset_Minimal n _ _ s.lt [r2, r5, r9, r13] (some ⟨b28, 0, none⟩) (4) (s.ft 133 rfl) [[98], [97], [99]] (some ⟨b93, 0, none⟩) (3) (s.ft 164 rfl) _ hr85) fun v94 a w hK hp s => ?_
   obtain ⟨Au95a1, cu95a1, rfl, hu95a1⟩ := hp
   replace s := s.ns 165 hu95a1
   refine l_seq rfl (l_buildDense (sz := 1) s 1503 rfl rfl rfl underlying27 rfl rfl rfl rfl rfl rfl rfl fun b96 a w hbb96 hK s => ?_)
   clear hbb96
   replace s := s.add 166 (rdF Rep.str (cellsOfL [vT ([99])]) ([[99]])) (RdAll.cons (by exact ⟨rfl, (Nat.le_of_ble_eq_true (by rfl))⟩) (RdAll.nil _ _ _))
   have hT := s
   replace hT := hT.fz (R := Rep.str) (kk := 1503) [] 167 rfl rfl (hT.ft 166 rfl) rfl
   refine lc s rfl func17 (by kernel_rfl) (c_r03_SameStrings n _ _ hT.lt _ _ _ (hT.ft 165 rfl) [[99]] (some ⟨b96, 0, none⟩) (1) (hT.ft 167 rfl) _ hr89) fun v97 a w hK hp s => ?_
   obtain rfl := hp
   refine qq s rfl (yl_b (y_not s rfl) hs92) fun a s => ?_
   refine mv s rfl rfl fun a s => ?_
   refine gn s rfl fun a s => ?_
   refine gn s rfl fun a s => ?_
   refine gn s rfl fun a s => ?_
   refine gn s rfl fun a s => ?_
   refine gn s rfl fun a s => ?_
   refine gn s rfl fun a s => ?_
   refine qq s rfl (y_pick_t s rfl rfl) fun a s => ?_
   apply wN
   exact ⟨(true), hg, (s.sb rfl rfl rfl)⟩
  replace hg := br_n hg hs92
  obtain ⟨r100, hr100, hg⟩ := bind_some hg
  obtain ⟨r104, hr104, hg⟩ := bind_some hg
  apply wL
  refine mv s rfl rfl fun a s => ?_
  refine l_seq rfl (l_buildDense (sz := 1) s 1501 rfl rfl rfl underlying27 rfl rfl rfl rfl rfl rfl rfl fun b107 a w hbb107 hK s => ?_)
  clear hbb107
  replace s := s.add 173 (rdF Rep.str (cellsOfL [vT ([98]), vT ([97]), vT ([99])]) ([[98], [97], [99]])) (RdAll.cons (by exact ⟨rfl, (Nat.le_of_ble_eq_true (by rfl))⟩) (RdAll.cons (by exact ⟨rfl, (Nat.le_of_ble_eq_true (by rfl))⟩) (RdAll.cons (by exact ⟨rfl, (Nat.le_of_ble_eq_true (by rfl))⟩) (RdAll.nil _ _ _))))
  replace s := s.freeze (R := Rep.str) (kk := 1501) (L' := []) 174 rfl rfl (s.ft 173 rfl) trivial rfl
  refine lc s rfl func26 (by kernel_rfl) (c_poset_Minimal n _ _ s.lt [r2, r5, r9, r13] (some ⟨b28, 0, none⟩) (4) (s.ft 133 rfl) [[98], [97], [99]] (some ⟨b107, 0, none⟩) (3) (s.ft 174 rfl) _ hr85) fun v108 a w hK hp s => ?_
  obtain ⟨Au109a1, cu109a1, rfl, hu109a1⟩ := hp
  replace s := s.ns 175 hu109a1
  refine l_seq rfl (l_buildDense (sz := 1) s 1503 rfl rfl rfl underlying27 rfl rfl rfl rfl rfl rfl rfl fun b110 a w hbb110 hK s => ?_)
  clear hbb110
  replace s := s.add 176 (rdF Rep.str (cellsOfL [vT ([99])]) ([[99]])) (RdAll.cons (by exact ⟨rfl, (Nat.le_of_ble_eq_true (by rfl))⟩) (RdAll.nil _ _ _))
  have hT := s
  replace hT := hT.fz (R := Rep.str) (kk := 1503) [] 177 rfl rfl (hT.ft 176 rfl) rfl
  refine lc s rfl func17 (by kernel_rfl) (c_r03_SameStrings n _ _ hT.lt _ _ _ (hT.ft 175 rfl) [[99]] (some ⟨b110, 0, none⟩) (1) (hT.ft 177 rfl) _ hr89) fun v111 a w hK hp s => ?_
  obtain rfl := hp
  refine qq s rfl (yl_b (y_not s rfl) hs92) fun a s => ?_
  refine mv s rfl rfl fun a s => ?_
  refine gm s rfl rfl fun a s => ?_
  refine gl s rfl (l_buildDense (sz := 1) s 1508 rfl rfl rfl underlying27 rfl rfl rfl rfl rfl rfl rfl fun b113 a w hbb113 hK s => ?_)
  clear hbb113
  replace s := s.add 178 (rdF Rep.str (cellsOfL [vT ([99]), vT ([97]), vT ([120]), vT ([97])]) ([[99], [97], [120], [97]])) (RdAll.cons (by exact ⟨rfl, (Nat.le_of_ble_eq_true (by rfl))⟩) (RdAll.cons (by exact ⟨rfl, (Nat.le_of_ble_eq_true (by rfl))⟩) (RdAll.cons (by exact ⟨rfl, (Nat.le_of_ble_eq_true (by rfl))⟩) (RdAll.cons (by exact ⟨rfl, (Nat.le_of_ble_eq_true (by rfl))⟩) (RdAll.nil _ _ _)))))
  replace s := s.freeze (R := Rep.str) (kk := 1508) (L' := [(1503, Ob.row (some ⟨b110, 0, none⟩) (1) (1) 9 1 (cellsOfL [vT ([99])]))]) 179 rfl rfl (s.ft 178 rfl) ⟨rfl, trivial⟩ rfl
  refine gl s rfl (l_call (cap := []) s rfl func24 rfl (by kernel_rfl) rfl rfl (c_poset_Maximal n _ _ s.lt [r2, r5, r9, r13] (some ⟨b28, 0, none⟩) (4) (s.ft 133 rfl) [[99], [97], [120], [97]] (some ⟨b113, 0, none⟩) (4) (s.ft 179 rfl) _ hr100) fun v114 a w hK hp s => ?_)
  obtain ⟨Au115a1, cu115a1, rfl, hu115a1⟩ := hp
  replace s := s.ns 180 hu115a1
  refine gl s rfl (l_buildDense (sz := 1) s 1510 rfl rfl rfl underlying27 rfl rfl rfl rfl rfl rfl rfl fun b116 a w hbb116 hK s => ?_)
  clear hbb116
  replace s := s.add 181 (rdF Rep.str (cellsOfL [vT ([97])]) ([[97]])) (RdAll.cons (by exact ⟨rfl, (Nat.le_of_ble_eq_true (by rfl))⟩) (RdAll.nil _ _ _))
  have hT := s
  replace hT := hT.fz (R := Rep.str) (kk := 1510) [1503] 182 rfl rfl (hT.ft 181 rfl) rfl
  refine gl s rfl (l_call (cap := []) s rfl func17 rfl (by kernel_rfl) rfl rfl (c_r03_SameStrings n _ _ hT.lt _ _ _ (hT.ft 180 rfl) [[97]] (some ⟨b116, 0, none⟩) (1) (hT.ft 182 rfl) _ hr104) fun v117 a w hK hp s => ?_)
  obtain rfl := hp
  refine gy s rfl (y_not s rfl) fun a s => ?_
  refine qq s rfl (y_pick_f s rfl rfl) fun a s => ?_
  apply wN
  exact ⟨(!(r104)), hg, (s.sb rfl rfl rfl)⟩
 clear s a; rintro a w ⟨t_83, hg, s⟩
 subst hk82
 refine c_cond s rfl (fun hc119 => ?_) (fun hc119 => ?_)
 ·replace hg := br_t hg hc119
  apply wR
  refine asg s rfl rfl fun a s => ?_
  apply wN
  apply wp_ret
  refine p_thenR ?_
  obtain rfl := Option.some.inj hg
  refine fin1 (fn := Try.f12) s rfl (r_tmp s rfl) ?_
  exact rfl
 replace hg := br_n hg hc119
 apply wp_skip
 apply pN
 apply wQ
 obtain ⟨r121, hr121, hg⟩ := bind_some hg
 obtain ⟨r125, hr125, hg⟩ := bind_some hg
 apply wL
 refine l_seq rfl (l_buildDense (sz := 1) s 1700 rfl rfl rfl underlying27 rfl rfl rfl rfl rfl rfl rfl fun b131 a w hbb131 hK s => ?_)
 clear hbb131
 replace s := s.add 193 (rdF Rep.str (cellsOfL [vT ([98])]) ([[98]])) (RdAll.cons (by exact ⟨rfl, (Nat.le_of_ble_eq_true (by rfl))⟩) (RdAll.nil _ _ _))
 replace s := s.freeze (R := Rep.str) (kk := 1700) (L' := []) 194 rfl rfl (s.ft 193 rfl) trivial rfl
 refine lc s rfl func30 (by kernel_rfl) (c_law03_decl n _ _ s.lt _ (Nat.le_of_ble_eq_true (by rfl)) [[98]] (some ⟨b131, 0, none⟩) (1) (s.ft 194 rfl) _ hr121) fun v132 a w hK hp s => ?_
 obtain ⟨Au133a2, cu133a2, Au133a3, cu133a3, rfl, lu133a1, hu133a2, hu133a3⟩ := hp
 replace s := s.ns 195 hu133a2
 replace s := s.ns 196 hu133a3
 refine l_seq rfl (l_buildDense (sz := 1) s 1702 rfl rfl rfl underlying27 rfl rfl rfl rfl rfl rfl rfl fun b134 a w hbb134 hK s => ?_)
 clear hbb134
 replace s := s.add 197 (rdF Rep.str (cellsOfL [vT ([97])]) ([[97]])) (RdAll.cons (by exact ⟨rfl, (Nat.le_of_ble_eq_true (by rfl))⟩) (RdAll.nil _ _ _))
 replace s := s.freeze (R := Rep.str) (kk := 1702) (L' := []) 198 rfl rfl (s.ft 197 rfl) trivial rfl
 refine lc s rfl func30 (by kernel_rfl) (c_law03_decl n _ _ s.lt _ (Nat.le_of_ble_eq_true (by rfl)) [[97]] (some ⟨b134, 0, none⟩) (1) (s.ft 198 rfl) _ hr125) fun v135 a w hK hp s => ?_
 obtain ⟨Au136a2, cu136a2, Au136a3, cu136a3, rfl, lu136a1, hu136a2, hu136a3⟩ := hp
 replace s := s.ns 199 hu136a2
 replace s := s.ns 200 hu136a3
 refine lc s rfl func30 (by kernel_rfl) (c_law03_decl n _ _ s.lt _ (Nat.le_of_ble_eq_true (by rfl)) [] (none) (0) (SlR.nil_ _ _ _) _ hr5) fun v137 a w hK hp s => ?_
 obtain ⟨Au138a2, cu138a2, Au138a3, cu138a3, rfl, lu138a1, hu138a2, hu138a3⟩ := hp
 replace s := s.ns 201 hu138a2
 replace s := s.ns 202 hu138a3
 refine l_seq rfl (l_buildDense (sz := 3) s 1705 rfl rfl rfl underlying22 rfl rfl rfl rfl rfl rfl rfl fun b139 a w hbb139 hK s => ?_)
 clear hbb139
 refine asg s rfl rfl fun a s => ?_
 apply wN
 apply wQ
 obtain ⟨r140, hr140, hg⟩ := bind_some hg
 rcases Decidable.em (r140 = 6) with hs143 | hs143
 ·have hs143e := decide_eq_true hs143
  replace hg := br_t hg hs143
  obtain ⟨hk144, hg⟩ := chk_some hg
  obtain ⟨r145, hr145, hg⟩ := bind_some hg
  rcases Decidable.em (r145 = 1) with hs148 | hs148
  ·have hs148e := decide_eq_true hs148
   replace hg := br_t hg hs148
   obtain ⟨hk149, hg⟩ := chk_some hg
   obtain ⟨r150, hr150, hg⟩ := bind_some hg
   rcases Decidable.em (r150 = 5) with hs153 | hs153
   ·have hs153e := decide_eq_true hs153
    replace hg := br_t hg hs153
    obtain ⟨r154, hr154, hg⟩ := bind_some hg
    apply wL
    refine mv s rfl rfl fun a s => ?_
    replace s := s.add 208 (rdF RTypeDecl (cellsOfL [.agg #[vT r121.Name, sl Au133a2 r121.Supers cu133a2, sl Au133a3 r121.Feats cu133a3], .agg #[vT r125.Name, sl Au136a2 r125.Supers cu136a2, sl Au136a3 r125.Feats cu136a3], .agg #[vT r5.Name, sl Au138a2 r5.Supers cu138a2, sl Au138a3 r5.Feats cu138a3]]) ([r121, r125, r5])) (RdAll.cons (by exact (RTypeDecl.mk' (x := r121) (by omega) (s.ft 195 rfl) (s.ft 196 rfl))) (RdAll.cons (by exact (RTypeDecl.mk' (x := r125) (by omega) (s.ft 199 rfl) (s.ft 200 rfl))) (RdAll.cons (by exact (RTypeDecl.mk' (x := r5) (by omega) (s.ft 201 rfl) (s.ft 202 rfl))) (RdAll.nil _ _ _))))
    have hT := s
    replace hT := hT.fz (R := RTypeDecl) (kk := 1705) [] 209 rfl rfl (hT.ft 208 rfl) rfl
    refine lc s rfl func13 (by kernel_rfl) (c_poset_Check n _ _ hT.lt [r121, r125, r5] (some ⟨b139, 0, none⟩) (3) (hT.ft 209 rfl) _ hr140) fun v157 a w hK hp s => ?_
    obtain rfl := hp
    refine qq s rfl (yl_b (y_eql s rfl rfl) hs143e) fun a s => ?_
    refine mv s rfl rfl fun a s => ?_
    refine gm s rfl rfl fun a s => ?_
    replace s := s.freeze (R := RTypeDecl) (kk := 1705) (L' := []) 210 rfl rfl (s.ft 208 rfl) trivial rfl
    have hcap211 := (s.ft 210 rfl).cap
    refine gy s rfl (y_cutH (xs := [r121, r125, r5]) (sz := 3) (i := 2) s rfl rfl underlying22 rfl rfl hk144 hcap211) fun a s => ?_
    replace s := s.add 211 (slF RTypeDecl (some ⟨b139, 0, none⟩) ((([r121, r125, r5]).take 2).length) (3) (([r121, r125, r5]).take 2)) (SlR.cutH (xs := [r121, r125, r5]) (s.ft 210 rfl) 2 hk144)
    refine gl s rfl (l_call (cap := []) s rfl func13 rfl (by kernel_rfl) rfl rfl (c_poset_Check n _ _ s.lt _ _ _ (s.ft 211 rfl) _ hr145) fun v159 a w hK hp s => ?_)
    obtain rfl := hp
    refine gy s rfl (yl_b (y_eql s rfl rfl) hs148e) fun a s => ?_
    refine qq s rfl (y_pick_t s rfl rfl) fun a s => ?_
    refine mv s rfl rfl fun a s => ?_
    refine gm s rfl rfl fun a s => ?_
    have hcap212 := (s.ft 210 rfl).cap
    refine gy s rfl (y_cutH (xs := [r121, r125, r5]) (sz := 3) (i := 1) s rfl rfl underlying22 rfl rfl hk149 hcap212) fun a s => ?_
    replace s := s.add 212 (slF RTypeDecl (some ⟨b139, 0, none⟩) ((([r121, r125, r5]).take 1).length) (3) (([r121, r125, r5]).take 1)) (SlR.cutH (xs := [r121, r125, r5]) (s.ft 210 rfl) 1 hk149)
    refine gl s rfl (l_call (cap := []) s rfl func13 rfl (by kernel_rfl) rfl rfl (c_poset_Check n _ _ s.lt _ _ _ (s.ft 212 rfl) _ hr150) fun v161 a w hK hp s => ?_)
    obtain rfl := hp
    refine gy s rfl (yl_b (y_eql s rfl rfl) hs153e) fun a s => ?_
    refine qq s rfl (y_pick_t s rfl rfl) fun a s => ?_
    refine mv s rfl rfl fun a s => ?_
    refine gl s rfl (l_call (cap := []) s rfl func13 rfl (by kernel_rfl) rfl rfl (c_poset_Check n _ _ s.lt [] (none) (0) (SlR.nil_ _ _ _) _ hr154) fun v163 a w hK hp s => ?_)
    obtain rfl := hp
    refine gy s rfl (y_eql s rfl rfl) fun a s => ?_
    refine qq s rfl (y_pick_t s rfl rfl) fun a s => ?_
    refine asg s rfl rfl fun a s => ?_
    apply wN
    apply wp_ret
    obtain rfl := Option.some.inj hg
    refine fin1 (fn := Try.f12) s rfl (r_tmp s rfl) ?_
    exact rfl
   have hs153e := decide_eq_false hs153
   replace hg := br_f hg hs153
   apply wL
   refine mv s rfl rfl fun a s => ?_
   replace s := s.add 213 (rdF RTypeDecl (cellsOfL [.agg #[vT r121.Name, sl Au133a2 r121.Supers cu133a2, sl Au133a3 r121.Feats cu133a3], .agg #[vT r125.Name, sl Au136a2 r125.Supers cu136a2, sl Au136a3 r125.Feats cu136a3], .agg #[vT r5.Name, sl Au138a2 r5.Supers cu138a2, sl Au138a3 r5.Feats cu138a3]]) ([r121, r125, r5])) (RdAll.cons (by exact (RTypeDecl.mk' (x := r121) (by omega) (s.ft 195 rfl) (s.ft 196 rfl))) (RdAll.cons (by exact (RTypeDecl.mk' (x := r125) (by omega) (s.ft 199 rfl) (s.ft 200 rfl))) (RdAll.cons (by exact (RTypeDecl.mk' (x := r5) (by omega) (s.ft 201 rfl) (s.ft 202 rfl))) (RdAll.nil _ _ _))))
   have hT := s
   replace hT := hT.fz (R := RTypeDecl) (kk := 1705) [] 214 rfl rfl (hT.ft 213 rfl) rfl
   refine lc s rfl func13 (by kernel_rfl) (c_poset_Check n _ _ hT.lt [r121, r125, r5] (some ⟨b139, 0, none⟩) (3) (hT.ft 214 rfl) _ hr140) fun v165 a w hK hp s => ?_
   obtain rfl := hp
   refine qq s rfl (yl_b (y_eql s rfl rfl) hs143e) fun a s => ?_
   refine mv s rfl rfl fun a s => ?_
   refine gm s rfl rfl fun a s => ?_
   replace s := s.freeze (R := RTypeDecl) (kk := 1705) (L' := []) 215 rfl rfl (s.ft 213 rfl) trivial rfl
   have hcap216 := (s.ft 215 rfl).cap
   refine gy s rfl (y_cutH (xs := [r121, r125, r5]) (sz := 3) (i := 2) s rfl rfl underlying22 rfl rfl hk144 hcap216) fun a s => ?_
   replace s := s.add 216 (slF RTypeDecl (some ⟨b139, 0, none⟩) ((([r121, r125, r5]).take 2).length) (3) (([r121, r125, r5]).take 2)) (SlR.cutH (xs := [r121, r125, r5]) (s.ft 215 rfl) 2 hk144)
   refine gl s rfl (l_call (cap := []) s rfl func13 rfl (by kernel_rfl) rfl rfl (c_poset_Check n _ _ s.lt _ _ _ (s.ft 216 rfl) _ hr145) fun v167 a w hK hp s => ?_)
   obtain rfl := hp
   refine gy s rfl (yl_b (y_eql s rfl rfl) hs148e) fun a s => ?_
   refine qq s rfl (y_pick_t s rfl rfl) fun a s => ?_
   refine mv s rfl rfl fun a s => ?_
   refine gm s rfl rfl fun a s => ?_
   have hcap217 := (s.ft 215 rfl).cap
   refine gy s rfl (y_cutH (xs := [r121, r125, r5]) (sz := 3) (i := 1) s rfl rfl underlying22 rfl rfl hk149 hcap217) fun a s => ?_
   replace s := s.add 217 (slF RTypeDecl (some ⟨b139, 0, none⟩) ((([r121, r125, r5]).take 1).length) (3) (([r121, r125, r5]).take 1)) (SlR.cutH (xs := [r121, r125, r5]) (s.ft 215 rfl) 1 hk149)
   refine gl s rfl (l_call (cap := []) s rfl func13 rfl (by kernel_rfl) rfl rfl (c_poset_Check n _ _ s.lt _ _ _ (s.ft 217 rfl) _ hr150) fun v169 a w hK hp s => ?_)
   obtain rfl := hp
   refine gy s rfl (yl_b (y_eql s rfl rfl) hs153e) fun a s => ?_
   refine qq s rfl (y_pick_t s rfl rfl) fun a s => ?_
   refine mv s rfl rfl fun a s => ?_
   refine gn s rfl fun a s => ?_
   refine gn s rfl fun a s => ?_
   refine qq s rfl (y_pick_f s rfl rfl) fun a s => ?_
   refine asg s rfl rfl fun a s => ?_
   apply wN
   apply wp_ret
   obtain rfl := Option.some.inj hg
   refine fin1 (fn := Try.f12) s rfl (r_tmp s rfl) ?_
   exact rfl
  have hs148e := decide_eq_false hs148
  replace hg := br_f hg hs148
  apply wL
  refine mv s rfl rfl fun a s => ?_
  replace s := s.add 218 (rdF RTypeDecl (cellsOfL [.agg #[vT r121.Name, sl Au133a2 r121.Supers cu133a2, sl Au133a3 r121.Feats cu133a3], .agg #[vT r125.Name, sl Au136a2 r125.Supers cu136a2, sl Au136a3 r125.Feats cu136a3], .agg #[vT r5.Name, sl Au138a2 r5.Supers cu138a2, sl Au138a3 r5.Feats cu138a3]]) ([r121, r125, r5])) (RdAll.cons (by exact (RTypeDecl.mk' (x := r121) (by omega) (s.ft 195 rfl) (s.ft 196 rfl))) (RdAll.cons (by exact (RTypeDecl.mk' (x := r125) (by omega) (s.ft 199 rfl) (s.ft 200 rfl))) (RdAll.cons (by exact (RTypeDecl.mk' (x := r5) (by omega) (s.ft 201 rfl) (s.ft 202 rfl))) (RdAll.nil _ _ _))))
  have hT := s
  replace hT := hT.fz (R := RTypeDecl) (kk := 1705) [] 219 rfl rfl (hT.ft 218 rfl) rfl
  refine lc s rfl func13 (by kernel_rfl) (c_poset_Check n _ _ hT.lt [r121, r125, r5] (some ⟨b139, 0, none⟩) (3) (hT.ft 219 rfl) _ hr140) fun v171 a w hK hp s => ?_
  obtain rfl := hp
  refine qq s rfl (yl_b (y_eql s rfl rfl) hs143e) fun a s => ?_
  refine mv s rfl rfl fun a s => ?_
  refine gm s rfl rfl fun a s => ?_
  replace s := s.freeze (R := RTypeDecl) (kk := 1705) (L' := []) 220 rfl rfl (s.ft 218 rfl) trivial rfl
  have hcap221 := (s.ft 220 rfl).cap
  refine gy s rfl (y_cutH (xs := [r121, r125, r5]) (sz := 3) (i := 2) s rfl rfl underlying22 rfl rfl hk144 hcap221) fun a s => ?_
  replace s := s.add 221 (slF RTypeDecl (some ⟨b139, 0, none⟩) ((([r121, r125, r5]).take 2).length) (3) (([r121, r125, r5]).take 2)) (SlR.cutH (xs := [r121, r125, r5]) (s.ft 220 rfl) 2 hk144)
  refine gl s rfl (l_call (cap := []) s rfl func13 rfl (by kernel_rfl) rfl rfl (c_poset_Check n _ _ s.lt _ _ _ (s.ft 221 rfl) _ hr145) fun v173 a w hK hp s => ?_)
  obtain rfl := hp
  refine gy s rfl (yl_b (y_eql s rfl rfl) hs148e) fun a s => ?_
  refine qq s rfl (y_pick_t s rfl rfl) fun a s => ?_
  refine mv s rfl rfl fun a s => ?_
  refine gn s rfl fun a s => ?_
  refine gn s rfl fun a s => ?_
  refine gn s rfl fun a s => ?_
  refine gn s rfl fun a s => ?_
  refine qq s rfl (y_pick_f s rfl rfl) fun a s => ?_
  refine mv s rfl rfl fun a s => ?_
  refine gn s rfl fun a s => ?_
  refine gn s rfl fun a s => ?_
  refine qq s rfl (y_pick_f s rfl rfl) fun a s => ?_
  refine asg s rfl rfl fun a s => ?_
  apply wN
  apply wp_ret
  obtain rfl := Option.some.inj hg
  refine fin1 (fn := Try.f12) s rfl (r_tmp s rfl) ?_
  exact rfl
 have hs143e := decide_eq_false hs143
 replace hg := br_f hg hs143
 apply wL
 refine mv s rfl rfl fun a s => ?_
 replace s := s.add 222 (rdF RTypeDecl (cellsOfL [.agg #[vT r121.Name, sl Au133a2 r121.Supers cu133a2, sl Au133a3 r121.Feats cu133a3], .agg #[vT r125.Name, sl Au136a2 r125.Supers cu136a2, sl Au136a3 r125.Feats cu136a3], .agg #[vT r5.Name, sl Au138a2 r5.Supers cu138a2, sl Au138a3 r5.Feats cu138a3]]) ([r121, r125, r5])) (RdAll.cons (by exact (RTypeDecl.mk' (x := r121) (by omega) (s.ft 195 rfl) (s.ft 196 rfl))) (RdAll.cons (by exact (RTypeDecl.mk' (x := r125) (by omega) (s.ft 199 rfl) (s.ft 200 rfl))) (RdAll.cons (by exact (RTypeDecl.mk' (x := r5) (by omega) (s.ft 201 rfl) (s.ft 202 rfl))) (RdAll.nil _ _ _))))
 have hT := s
 replace hT := hT.fz (R := RTypeDecl) (kk := 1705) [] 223 rfl rfl (hT.ft 222 rfl) rfl
 refine lc s rfl func13 (by kernel_rfl) (c_poset_Check n _ _ hT.lt [r121, r125, r5] (some ⟨b139, 0, none⟩) (3) (hT.ft 223 rfl) _ hr140) fun v175 a w hK hp s => ?_
 obtain rfl := hp
 refine qq s rfl (yl_b (y_eql s rfl rfl) hs143e) fun a s => ?_
 refine mv s rfl rfl fun a s => ?_
 refine gn s rfl fun a s => ?_
 refine gn s rfl fun a s => ?_
 refine gn s rfl fun a s => ?_
 refine gn s rfl fun a s => ?_
 refine qq s rfl (y_pick_f s rfl rfl) fun a s => ?_
 refine mv s rfl rfl fun a s => ?_
 refine gn s rfl fun a s => ?_
 refine gn s rfl fun a s => ?_
 refine gn s rfl fun a s => ?_
 refine gn s rfl fun a s => ?_
 refine qq s rfl (y_pick_f s rfl rfl) fun a s => ?_
 refine mv s rfl rfl fun a s => ?_
 refine gn s rfl fun a s => ?_
 refine gn s rfl fun a s => ?_
 refine qq s rfl (y_pick_f s rfl rfl) fun a s => ?_
 refine asg s rfl rfl fun a s => ?_
 apply wN
 apply wp_ret
 obtain rfl := Option.some.inj hg
 refine fin1 (fn := Try.f12) s rfl (r_tmp s rfl) ?_
 exact rfl
set_option maxHeartbeats 1000000 in
theorem c_law03_many (n : Nat) (M : Bs) (w0 : World) (hM : ∀ b, M b → b < w0.heap.size) (n_ : Int) (r : (List TypeDecl)) (hg : law03_many n n_ = some r) :
    Calls Try.prog 29 [.int .i64 (n_)].toArray w0 (Ret noB w0 fun v w => ∃ (Aa1 : Option Addr), ∃ (ca1 : Nat), v = .slice (Aa1) ((r).length) (ca1) ∧ (SlR RTypeDecl M w Aa1 (r).length ca1 (r))) := by
 unfold law03_many at hg
 refine enter M noB func29 rfl rfl hM ?_
 intro a s
 apply wR
 refine asg s rfl rfl fun a s => ?_
 apply wN
 apply wQ
 obtain ⟨r1, hr1, hg⟩ := bind_some hg
 apply wL
 refine lc s rfl func30 (by kernel_rfl) (c_law03_decl n _ _ s.lt _ (Nat.le_of_ble_eq_true (by rfl)) [] (none) (0) (SlR.nil_ _ _ _) _ hr1) fun v5 a w hK hp s => ?_
 obtain ⟨Au6a2, cu6a2, Au6a3, cu6a3, rfl, lu6a1, hu6a2, hu6a3⟩ := hp
 replace s := s.ns 103 hu6a2
 replace s := s.ns 104 hu6a3
 refine l_seq rfl (l_buildDense (sz := 3) s 1101 rfl rfl rfl underlying22 rfl rfl rfl rfl rfl rfl rfl fun b7 a w hbb7 hK s => ?_)
 clear hbb7
 refine asg s rfl rfl fun a s => ?_
 apply wN
 apply wQ
 apply wR
 refine asg s rfl rfl fun a s => ?_
 apply wN
 apply wp_block
 replace s := s.add 107 (rdF RTypeDecl (cellsOfL [.agg #[vT r1.Name, sl Au6a2 r1.Supers cu6a2, sl Au6a3 r1.Feats cu6a3]]) ([r1])) (RdAll.cons (by exact (RTypeDecl.mk' (x := r1) (by omega) (s.ft 103 rfl) (s.ft 104 rfl))) (RdAll.nil _ _ _))
 replace s := s.al 106 107 rfl
 replace s := s.pk [(700105, 1101)] (by decide)
 refine c_loop (σ := Nat) (fun m1 a w => ∃ (d_8 : (List TypeDecl)) (i_12 : Nat) (A9 : Option Addr) (c10 : Nat) (cs11 : List Value), law03_many_L0 n n_ m1 d_8 i_12 = some r ∧ St (⟨Try.f29.ntmps, M, noB, w0⟩ : Ctx) [(0, vI n_), (3, sl A9 d_8 c10), (4, vI (((i_12 : Nat) : Int)))] [(700105, Ob.row (A9) ((d_8).length) (c10) 40 3 (cs11))] [(106, rdF RTypeDecl (cs11) (d_8))] a w) (fun m1 => m1) n ⟨([r1]), (1), (some ⟨b7, 0, none⟩), (1), (cellsOfL [.agg #[vT r1.Name, sl Au6a2 r1.Supers cu6a2, sl Au6a3 r1.Feats cu6a3]]), hg, (s.sb rfl rfl rfl)⟩ ?_
 clear s a; rintro m1 a w ⟨d_8, i_12, A9, c10, cs11, hg, s⟩
 rcases m1 with _ | m1
 ·rw [law03_many_L0] at hg; cases hg
 rw [law03_many_L0] at hg
 apply wQ
 apply wR
 refine mv s rfl rfl fun a s => ?_
 refine mv s rfl rfl fun a s => ?_
 refine qq s rfl (y_lss s rfl rfl) fun a s => ?_
 apply wN
 refine c_dec s rfl (fun hc13 => ?_) (fun hc13 => ?_)
 ·replace hg := br_t hg hc13
  apply wp_skip
  apply pN
  apply wQ
  apply wp_block
  obtain ⟨hk14, hg⟩ := chk_some hg
  obtain ⟨hk15, hg⟩ := chk_some hg
  obtain ⟨hk16, hg⟩ := chk_some hg
  obtain ⟨hk18, hg⟩ := chk_some hg
  obtain ⟨r20, hr20, hg⟩ := bind_some hg
  obtain ⟨hk24, hg⟩ := chk_some hg
  apply wL
  refine mv s rfl rfl fun a s => ?_
  refine mv s rfl rfl fun a s => ?_
  refine qq s rfl (y_quoN (i := i_12) (j := 26) s rfl rfl (by decide) (in64.2 (by omega))) fun a s => ?_
  refine qq s rfl (y_addN (i := 97) (j := (i_12 / 26)) s rfl rfl (in64.2 (by omega))) fun a s => ?_
  refine qq s rfl (y_convU8 s rfl underlying3 underlying5) fun a s => ?_
  refine mv s rfl rfl fun a s => ?_
  refine qq s rfl (y_remN (i := i_12) (j := 26) s rfl rfl (by decide)) fun a s => ?_
  refine qq s rfl (y_addN (i := 97) (j := (i_12 % 26)) s rfl rfl (in64.2 (by omega))) fun a s => ?_
  refine qq s rfl (y_convU8 s rfl underlying3 underlying5) fun a s => ?_
  refine l_seq rfl (l_buildDense (sz := 1) s 1509 rfl rfl rfl underlying57 rfl rfl rfl rfl rfl rfl rfl fun b27 a w hbb27 hK s => ?_)
  clear hbb27
  replace s := s.add 115 (rdF Rep.u8 (cellsOfL [.int .u8 ((((toU8 ((97 + i_12 / 26 : Nat) : Int)).toNat : Nat) : Int)), .int .u8 ((((toU8 ((97 + i_12 % 26 : Nat) : Int)).toNat : Nat) : Int))]) ([toU8 ((97 + i_12 / 26 : Nat) : Int), toU8 ((97 + i_12 % 26 : Nat) : Int)])) (RdAll.cons (by exact rfl) (RdAll.cons (by exact rfl) (RdAll.nil _ _ _)))
  have hbl := row_len1 (s.wd.holds 1509 _ rfl) (s.ft 115 rfl)
  refine qq s rfl (y_bytesRow (kk := 1509) s rfl rfl (s.ft 115 rfl) underlying57 underlying5 underlying9) fun a s => ?_
  refine qq s rfl (y_concat s rfl rfl hk18) fun a s => ?_
  refine l_seq rfl (l_buildDense (sz := 1) s 1512 rfl rfl rfl underlying27 rfl rfl rfl rfl rfl rfl rfl fun b28 a w hbb28 hK s => ?_)
  clear hbb28
  replace s := s.add 116 (rdF Rep.str (cellsOfL [vT ([116])]) ([[116]])) (RdAll.cons (by exact ⟨rfl, (Nat.le_of_ble_eq_true (by rfl))⟩) (RdAll.nil _ _ _))
  replace s := s.freeze (R := Rep.str) (kk := 1512) (L' := [(1509, Ob.row (some ⟨b27, 0, none⟩) (2) (2) 5 1 (cellsOfL [.int .u8 ((((toU8 ((97 + i_12 / 26 : Nat) : Int)).toNat : Nat) : Int)), .int .u8 ((((toU8 ((97 + i_12 % 26 : Nat) : Int)).toNat : Nat) : Int))])), (700105, Ob.row (A9) ((d_8).length) (c10) 40 3 (cs11))]) 117 rfl rfl (s.ft 116 rfl) ⟨rfl, rfl, trivial⟩ rfl
  refine lc s rfl func30 (by kernel_rfl) (c_law03_decl n _ _ s.lt _ (by rw [List.length_append]; omega) [[116]] (some ⟨b28, 0, none⟩) (1) (s.ft 117 rfl) _ hr20) fun v29 a w hK hp s => ?_
  obtain ⟨Au30a2, cu30a2, Au30a3, cu30a3, rfl, lu30a1, hu30a2, hu30a3⟩ := hp
  replace s := s.ns 118 hu30a2
  replace s := s.ns 119 hu30a3
  refine l_seq rfl (l_buildDense (sz := 3) s 1514 rfl rfl rfl underlying22 rfl rfl rfl rfl rfl rfl rfl fun b31 a w hbb31 hK s => ?_)
  clear hbb31
  replace s := s.add 120 (rdF RTypeDecl (cellsOfL [.agg #[vT r20.Name, sl Au30a2 r20.Supers cu30a2, sl Au30a3 r20.Feats cu30a3]]) ([r20])) (RdAll.cons (by exact (RTypeDecl.mk' (x := r20) (by omega) (s.ft 118 rfl) (s.ft 119 rfl))) (RdAll.nil _ _ _))
  have hs33 := row_src (s.wd.holds 1514 _ rfl) (RdAll.one (s.ft 120 rfl))
  refine l_seq rfl (l_append (sz := 3) (by_ := 64) (N := (d_8 ++ [r20]).length) s 700105 rfl rfl rfl underlying22 rfl rfl rfl rfl rfl hs33 (by rw [List.length_append]; try rfl) rfl (rmA hk24 rfl) (rmB hk24) rfl fun Aq32 cq32 a w hA hK s => ?_)
  replace s := s.add 121 (rdF RTypeDecl (cs11 ++ (cellsOfL [.agg #[vT r20.Name, sl Au30a2 r20.Supers cu30a2, sl Au30a3 r20.Feats cu30a3]])) (d_8 ++ [r20])) (RdAll.append (s.ft 106 rfl) (s.ft 120 rfl))
  refine asg s rfl rfl fun a s => ?_
  apply wO
  refine p_inN ?_
  apply pN
  obtain ⟨hk34, hg⟩ := chk_some hg
  apply wL
  refine mv s rfl rfl fun a s => ?_
  refine qq s rfl (y_addN (i := i_12) (j := 1) s rfl rfl (in64.2 (by omega))) fun a s => ?_
  refine asg s rfl rfl fun a s => ?_
  apply wN
  replace s := s.al 106 121 rfl
  exact ⟨m1, Nat.lt_succ_self _, ⟨(d_8 ++ [r20]), (i_12 + 1), (Aq32), (cq32), (cs11 ++ (cellsOfL [.agg #[vT r20.Name, sl Au30a2 r20.Supers cu30a2, sl Au30a3 r20.Feats cu30a3]])), hg, (s.sb rfl rfl rfl)⟩⟩
 replace hg := br_f hg hc13
 apply wp_exit
 refine p_then ?_
 refine p_then ?_
 refine p_in ?_
 apply pN
 apply wR
 refine mv s rfl rfl fun a s => ?_
 refine asg s rfl rfl fun a s => ?_
 apply wN
 apply wp_ret
 obtain rfl := Option.some.inj hg
 refine fin1 (fn := Try.f29) s rfl (r_tmp s rfl) ?_
 exact ⟨(A9), (c10), rfl, (s.rowOut (R := RTypeDecl) (kk := 700105) rfl rfl (s.ft 106 rfl))⟩
end Go.Proofs.Ytoeolfnjblibpaa
