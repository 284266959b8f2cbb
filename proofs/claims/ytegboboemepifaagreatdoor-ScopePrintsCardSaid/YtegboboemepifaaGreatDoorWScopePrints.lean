/- Chapter 41: the walk of ScopePrints -/
import Derived.Test.YtegboboemepifaaGreatDoorW5
namespace Go.Proofs.YtegboboemepifaaGreatDoor
open Go.Gl Go.RowKit Tryz
set_option linter.unusedVariables false
set_option linter.unusedSimpArgs false
set_option maxRecDepth 4000

set_option maxHeartbeats 400000 in
theorem c_law41_ScopePrints (n : Nat) (M : Bs) (w0 : World) (hM : ∀ b, M b → b < w0.heap.size) (m_ : MRS) (Ap03 : Option Addr) (cp03 : Nat) (Ap04 : Option Addr) (cp04 : Nat) (Ap05 : Option Addr) (cp05 : Nat) (hp03 : SlR Rep.str M w0 Ap03 (m_.Vars).length cp03 (m_.Vars)) (hp04 : SlR REP M w0 Ap04 (m_.Rels).length cp04 (m_.Rels)) (hp05 : SlR RQeq M w0 Ap05 (m_.Cons).length cp05 (m_.Cons)) (plug_ : (List Int)) (Ap11 : Option Addr) (cp11 : Nat) (hp11 : SlR (Rep.num .i64) M w0 Ap11 (plug_).length cp11 (plug_)) (hTab : (tabF Tryz.prog).p M w0) (r : Bool) (hg : law41_ScopePrints n m_ plug_ = some r) :
    Calls Tryz.prog 6 [.agg #[.int .i64 (m_.Top), .int .i64 (m_.Index), .slice (Ap03) ((m_.Vars).length) (cp03), .slice (Ap04) ((m_.Rels).length) (cp04), .slice (Ap05) ((m_.Cons).length) (cp05)], .slice (Ap11) ((plug_).length) (cp11)].toArray w0 (Ret noB w0 fun v w => v = .bool (r)) := by
 unfold law41_ScopePrints at hg
 refine enter M noB func6 rfl rfl hM ?_
 intro a s
 replace s := s.es 101 hp03
 replace s := s.es 102 hp04
 replace s := s.es 103 hp05
 replace s := s.es 104 hp11
 replace s := s.add 7 (tabF Tryz.prog) (by exact Fact.change _ enterM hTab)
 apply wR
 refine l_seq rfl (l_box (zs := [vI (m_.Top), vI (m_.Index), sl Ap03 (m_.Vars) cp03, sl Ap04 (m_.Rels) cp04, sl Ap05 (m_.Cons) cp05]) s 1000 rfl rfl rfl rfl fun b2 a w hb hK s => ?_)
 refine asg s rfl rfl fun a s => ?_
 apply wN
 apply wQ
 apply wQ
 obtain ⟨k3, hg, hk3⟩ := jn_some hg
 refine c_post (fun a w => ∃ (t_4 : Bool), k3 t_4 = some r ∧ St (⟨Tryz.f6.ntmps, M, noB, w0⟩ : Ctx) [(1, sl Ap11 (plug_) cp11), (2, vP b2 0), (16, .bool (t_4))] [(1000, Ob.box b2 [vI (m_.Top), vI (m_.Index), sl Ap03 (m_.Vars) cp03, sl Ap04 (m_.Rels) cp04, sl Ap05 (m_.Cons) cp05] 26)] [(7, tabF Tryz.prog), (101, slF Rep.str (Ap03) ((m_.Vars).length) (cp03) (m_.Vars)), (102, slF REP (Ap04) ((m_.Rels).length) (cp04) (m_.Rels)), (103, slF RQeq (Ap05) ((m_.Cons).length) (cp05) (m_.Cons)), (104, slF (Rep.num .i64) (Ap11) ((plug_).length) (cp11) (plug_))] a w) ?_ ?_
 ·obtain ⟨r5, hr5, hg⟩ := bind_some hg
  rcases Bool.eq_false_or_eq_true (!(r5)) with hs8 | hs8
  ·replace hg := br_t hg hs8
   apply wL
   refine qq s rfl (y_loadAll (kk := 1000) s rfl rfl underlying26 rfl rfl) fun a s => ?_
   refine l_seq rfl (l_call (cap := []) s rfl func9 rfl (by kernel_rfl) rfl rfl (c_law41_valid n _ _ s.lt m_ (Ap03) (cp03) (Ap04) (cp04) (Ap05) (cp05) (s.ft 101 rfl) (s.ft 102 rfl) (s.ft 103 rfl) r5 hr5) fun v9 a w hK hp s => ?_)
   obtain rfl := hp
   refine qq s rfl (yl_b (y_not s rfl) hs8) fun a s => ?_
   refine mv s rfl rfl fun a s => ?_
   refine gn s rfl fun a s => ?_
   refine gn s rfl fun a s => ?_
   refine gn s rfl fun a s => ?_
   refine qq s rfl (y_pick_t s rfl rfl) fun a s => ?_
   apply wN
   exact ⟨(true), hg, (s.sb rfl rfl rfl)⟩
  replace hg := br_n hg hs8
  apply wL
  refine qq s rfl (y_loadAll (kk := 1000) s rfl rfl underlying26 rfl rfl) fun a s => ?_
  refine l_seq rfl (l_call (cap := []) s rfl func9 rfl (by kernel_rfl) rfl rfl (c_law41_valid n _ _ s.lt m_ (Ap03) (cp03) (Ap04) (cp04) (Ap05) (cp05) (s.ft 101 rfl) (s.ft 102 rfl) (s.ft 103 rfl) r5 hr5) fun v11 a w hK hp s => ?_)
  obtain rfl := hp
  refine qq s rfl (yl_b (y_not s rfl) hs8) fun a s => ?_
  refine mv s rfl rfl fun a s => ?_
  refine gm s rfl rfl fun a s => ?_
  refine gy s rfl (y_lenSlice s rfl underlying30) fun a s => ?_
  refine gy s rfl (y_gtrN (i := ((plug_).length)) (j := 20) s rfl rfl) fun a s => ?_
  refine qq s rfl (y_pick_f s rfl rfl) fun a s => ?_
  apply wN
  exact ⟨(decide ((20 : Nat) < ((plug_).length))), hg, (s.sb rfl rfl rfl)⟩
 clear s a; rintro a w ⟨t_4, hg, s⟩
 subst hk3
 refine c_cond s rfl (fun hc13 => ?_) (fun hc13 => ?_)
 ·replace hg := br_t hg hc13
  apply wQ
  obtain ⟨r14, hr14, hg⟩ := bind_some hg
  apply wL
  refine l_seq rfl (l_call (cap := []) s rfl func10 rfl (by kernel_rfl) rfl rfl (c_law41_exampleHolds n _ _ s.lt (s.ft 7 rfl) r14 hr14) fun v17 a w hK hp s => ?_)
  obtain rfl := hp
  refine asg s rfl rfl fun a s => ?_
  apply wN
  apply wp_ret
  refine p_thenR ?_
  obtain rfl := Option.some.inj hg
  refine fin1 (fn := Tryz.f6) s rfl (r_tmp s rfl) ?_
  exact rfl
 replace hg := br_n hg hc13
 apply wp_skip
 apply pN
 apply wQ
 obtain ⟨r19, hr19, hg⟩ := bind_some hg
 apply wL
 refine qq s rfl (y_loadAll (kk := 1000) s rfl rfl underlying26 rfl rfl) fun a s => ?_
 refine mv s rfl rfl fun a s => ?_
 refine l_seq rfl (l_call (cap := []) s rfl func21 rfl (by kernel_rfl) rfl rfl (c_scope_Print n _ _ s.lt m_ (Ap03) (cp03) (Ap04) (cp04) (Ap05) (cp05) (s.ft 101 rfl) (s.ft 102 rfl) (s.ft 103 rfl) plug_ (Ap11) (cp11) (s.ft 104 rfl) (s.ft 7 rfl) r19 hr19) fun v22 a w hK hp s => ?_)
 obtain ⟨rfl, lu23a1⟩ := hp
 refine mv s rfl rfl fun a s => ?_
 refine qq s rfl (y_extract s rfl rfl) fun a s => ?_
 refine qq s rfl (y_extract s rfl rfl) fun a s => ?_
 refine asg s rfl rfl fun a s => ?_
 refine asg s rfl rfl fun a s => ?_
 apply wN
 apply wQ
 obtain ⟨r24, hr24, hg⟩ := bind_some hg
 apply wL
 refine qq s rfl (y_loadAll (kk := 1000) s rfl rfl underlying26 rfl rfl) fun a s => ?_
 refine mv s rfl rfl fun a s => ?_
 refine l_seq rfl (l_call (cap := []) s rfl func22 rfl (by kernel_rfl) rfl rfl (c_r41_Print n _ _ s.lt m_ (Ap03) (cp03) (Ap04) (cp04) (Ap05) (cp05) (s.ft 101 rfl) (s.ft 102 rfl) (s.ft 103 rfl) plug_ (Ap11) (cp11) (s.ft 104 rfl) r24 hr24) fun v27 a w hK hp s => ?_)
 obtain ⟨rfl, lu28a1⟩ := hp
 refine mv s rfl rfl fun a s => ?_
 refine qq s rfl (y_extract s rfl rfl) fun a s => ?_
 refine qq s rfl (y_extract s rfl rfl) fun a s => ?_
 refine asg s rfl rfl fun a s => ?_
 refine asg s rfl rfl fun a s => ?_
 apply wN
 apply wQ
 rcases Decidable.em ((r19.1 : List UInt8) = r24.1) with hs29 | hs29
 ·have hs29e := decide_eq_true hs29
  replace hg := br_t hg hs29
  rcases Decidable.em (r19.2 = r24.2) with hs30 | hs30
  ·have hs30e := decide_eq_true hs30
   replace hg := br_t hg hs30
   obtain ⟨r31, hr31, hg⟩ := bind_some hg
   apply wL
   refine mv s rfl rfl fun a s => ?_
   refine mv s rfl rfl fun a s => ?_
   refine qq s rfl (yl_b (y_seq s rfl rfl) hs29e) fun a s => ?_
   refine mv s rfl rfl fun a s => ?_
   refine gm s rfl rfl fun a s => ?_
   refine gm s rfl rfl fun a s => ?_
   refine gy s rfl (yl_b (y_eql s rfl rfl) hs30e) fun a s => ?_
   refine qq s rfl (y_pick_t s rfl rfl) fun a s => ?_
   refine mv s rfl rfl fun a s => ?_
   refine gl s rfl (l_call (cap := []) s rfl func10 rfl (by kernel_rfl) rfl rfl (c_law41_exampleHolds n _ _ s.lt (s.ft 7 rfl) r31 hr31) fun v34 a w hK hp s => ?_)
   obtain rfl := hp
   refine qq s rfl (y_pick_t s rfl rfl) fun a s => ?_
   refine asg s rfl rfl fun a s => ?_
   apply wN
   apply wp_ret
   obtain rfl := Option.some.inj hg
   refine fin1 (fn := Tryz.f6) s rfl (r_tmp s rfl) ?_
   exact rfl
  have hs30e := decide_eq_false hs30
  replace hg := br_f hg hs30
  apply wL
  refine mv s rfl rfl fun a s => ?_
  refine mv s rfl rfl fun a s => ?_
  refine qq s rfl (yl_b (y_seq s rfl rfl) hs29e) fun a s => ?_
  refine mv s rfl rfl fun a s => ?_
  refine gm s rfl rfl fun a s => ?_
  refine gm s rfl rfl fun a s => ?_
  refine gy s rfl (yl_b (y_eql s rfl rfl) hs30e) fun a s => ?_
  refine qq s rfl (y_pick_t s rfl rfl) fun a s => ?_
  refine mv s rfl rfl fun a s => ?_
  refine gn s rfl fun a s => ?_
  refine qq s rfl (y_pick_f s rfl rfl) fun a s => ?_
  refine asg s rfl rfl fun a s => ?_
  apply wN
  apply wp_ret
  obtain rfl := Option.some.inj hg
  refine fin1 (fn := Tryz.f6) s rfl (r_tmp s rfl) ?_
  exact rfl
 have hs29e := decide_eq_false hs29
 replace hg := br_f hg hs29
 apply wL
 refine mv s rfl rfl fun a s => ?_
 refine mv s rfl rfl fun a s => ?_
 refine qq s rfl (yl_b (y_seq s rfl rfl) hs29e) fun a s => ?_
 refine mv s rfl rfl fun a s => ?_
 refine gn s rfl fun a s => ?_
 refine gn s rfl fun a s => ?_
 refine gn s rfl fun a s => ?_
 refine qq s rfl (y_pick_f s rfl rfl) fun a s => ?_
 refine mv s rfl rfl fun a s => ?_
 refine gn s rfl fun a s => ?_
 refine qq s rfl (y_pick_f s rfl rfl) fun a s => ?_
 refine asg s rfl rfl fun a s => ?_
 apply wN
 apply wp_ret
 obtain rfl := Option.some.inj hg
 refine fin1 (fn := Tryz.f6) s rfl (r_tmp s rfl) ?_
 exact rfl
end Go.Proofs.YtegboboemepifaaGreatDoor

