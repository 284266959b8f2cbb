/- Chapter 42: the walk of SolveFirst -/
import Derived.Test.YtdicfdfncbmmpaaGreatW5
namespace Go.Proofs.YtdicfdfncbmmpaaGreat
open Go.Gl Go.RowKit Tryz
set_option linter.unusedVariables false
set_option linter.unusedSimpArgs false
set_option maxRecDepth 4000

set_option maxHeartbeats 400000 in
theorem c_law42_SolveFirst (n : Nat) (M : Bs) (w0 : World) (hM : ∀ b, M b → b < w0.heap.size) (m_ : MRS) (Ap03 : Option Addr) (cp03 : Nat) (Ap04 : Option Addr) (cp04 : Nat) (Ap05 : Option Addr) (cp05 : Nat) (hp03 : SlR Rep.str M w0 Ap03 (m_.Vars).length cp03 (m_.Vars)) (hp04 : SlR REP M w0 Ap04 (m_.Rels).length cp04 (m_.Rels)) (hp05 : SlR RQeq M w0 Ap05 (m_.Cons).length cp05 (m_.Cons)) (r : Bool) (hg : law42_SolveFirst n m_ = some r) :
    Calls Tryz.prog 4 [.agg #[.int .i64 (m_.Top), .int .i64 (m_.Index), .slice (Ap03) ((m_.Vars).length) (cp03), .slice (Ap04) ((m_.Rels).length) (cp04), .slice (Ap05) ((m_.Cons).length) (cp05)]].toArray w0 (Ret noB w0 fun v w => v = .bool (r)) := by
 unfold law42_SolveFirst at hg
 refine enter M noB func4 rfl rfl hM ?_
 intro a s
 replace s := s.es 101 hp03
 replace s := s.es 102 hp04
 replace s := s.es 103 hp05
 apply wR
 refine l_seq rfl (l_box (zs := [vI (m_.Top), vI (m_.Index), sl Ap03 (m_.Vars) cp03, sl Ap04 (m_.Rels) cp04, sl Ap05 (m_.Cons) cp05]) s 1000 rfl rfl rfl rfl fun b2 a w hb hK s => ?_)
 refine asg s rfl rfl fun a s => ?_
 apply wN
 apply wQ
 apply wQ
 obtain ⟨r3, hr3, hg⟩ := bind_some hg
 apply wL
 refine qq s rfl (y_loadAll (kk := 1000) s rfl rfl underlying26 rfl rfl) fun a s => ?_
 refine l_seq rfl (l_call (cap := []) s rfl func5 rfl (by kernel_rfl) rfl rfl (c_law42_valid n _ _ s.lt m_ (Ap03) (cp03) (Ap04) (cp04) (Ap05) (cp05) (s.ft 101 rfl) (s.ft 102 rfl) (s.ft 103 rfl) r3 hr3) fun v6 a w hK hp s => ?_)
 obtain rfl := hp
 refine qq s rfl (y_not s rfl) fun a s => ?_
 apply wN
 refine c_cond s rfl (fun hc8 => ?_) (fun hc8 => ?_)
 ·replace hg := br_t hg hc8
  apply wQ
  obtain ⟨r9, hr9, hg⟩ := bind_some hg
  apply wL
  refine l_seq rfl (l_call (cap := []) s rfl func6 rfl (by kernel_rfl) rfl rfl (c_law42_exampleHolds n _ _ s.lt  r9 hr9) fun v12 a w hK hp s => ?_)
  obtain rfl := hp
  refine asg s rfl rfl fun a s => ?_
  apply wN
  apply wp_ret
  refine p_thenR ?_
  obtain rfl := Option.some.inj hg
  refine fin1 (fn := Tryz.f4) s rfl (r_tmp s rfl) ?_
  exact rfl
 replace hg := br_n hg hc8
 apply wp_skip
 apply pN
 apply wQ
 obtain ⟨r14, hr14, hg⟩ := bind_some hg
 apply wL
 refine qq s rfl (y_loadAll (kk := 1000) s rfl rfl underlying26 rfl rfl) fun a s => ?_
 refine l_seq rfl (l_call (cap := []) s rfl func10 rfl (by kernel_rfl) rfl rfl (c_solve_First n _ _ s.lt m_ (Ap03) (cp03) (Ap04) (cp04) (Ap05) (cp05) (s.ft 101 rfl) (s.ft 102 rfl) (s.ft 103 rfl) r14 hr14) fun v17 a w hK hp s => ?_)
 obtain ⟨Au18a1, cu18a1, rfl, hu18a1⟩ := hp
 replace s := s.ns 105 hu18a1
 refine mv s rfl rfl fun a s => ?_
 refine qq s rfl (y_extract s rfl rfl) fun a s => ?_
 refine qq s rfl (y_extract s rfl rfl) fun a s => ?_
 refine asg s rfl rfl fun a s => ?_
 refine asg s rfl rfl fun a s => ?_
 apply wN
 apply wQ
 obtain ⟨r19, hr19, hg⟩ := bind_some hg
 apply wL
 refine qq s rfl (y_loadAll (kk := 1000) s rfl rfl underlying26 rfl rfl) fun a s => ?_
 refine l_seq rfl (l_call (cap := []) s rfl func11 rfl (by kernel_rfl) rfl rfl (c_r42_First n _ _ s.lt m_ (Ap03) (cp03) (Ap04) (cp04) (Ap05) (cp05) (s.ft 101 rfl) (s.ft 102 rfl) (s.ft 103 rfl) r19 hr19) fun v22 a w hK hp s => ?_)
 obtain ⟨Au23a1, cu23a1, rfl, hu23a1⟩ := hp
 replace s := s.ns 107 hu23a1
 refine mv s rfl rfl fun a s => ?_
 refine qq s rfl (y_extract s rfl rfl) fun a s => ?_
 refine qq s rfl (y_extract s rfl rfl) fun a s => ?_
 refine asg s rfl rfl fun a s => ?_
 refine asg s rfl rfl fun a s => ?_
 apply wN
 apply wQ
 obtain ⟨r24, hr24, hg⟩ := bind_some hg
 apply wL
 refine qq s rfl (y_loadAll (kk := 1000) s rfl rfl underlying26 rfl rfl) fun a s => ?_
 refine l_seq rfl (l_call (cap := []) s rfl func12 rfl (by kernel_rfl) rfl rfl (c_solve_Count n _ _ s.lt m_ (Ap03) (cp03) (Ap04) (cp04) (Ap05) (cp05) (s.ft 101 rfl) (s.ft 102 rfl) (s.ft 103 rfl) r24 hr24) fun v27 a w hK hp s => ?_)
 obtain rfl := hp
 refine mv s rfl rfl fun a s => ?_
 refine qq s rfl (y_extract s rfl rfl) fun a s => ?_
 refine qq s rfl (y_extract s rfl rfl) fun a s => ?_
 refine asg s rfl rfl fun a s => ?_
 refine asg s rfl rfl fun a s => ?_
 apply wN
 apply wQ
 obtain ⟨r29, hr29, hg⟩ := bind_some hg
 apply wL
 refine qq s rfl (y_loadAll (kk := 1000) s rfl rfl underlying26 rfl rfl) fun a s => ?_
 refine l_seq rfl (l_call (cap := []) s rfl func13 rfl (by kernel_rfl) rfl rfl (c_r42_Count n _ _ s.lt m_ (Ap03) (cp03) (Ap04) (cp04) (Ap05) (cp05) (s.ft 101 rfl) (s.ft 102 rfl) (s.ft 103 rfl) r29 hr29) fun v32 a w hK hp s => ?_)
 obtain rfl := hp
 refine mv s rfl rfl fun a s => ?_
 refine qq s rfl (y_extract s rfl rfl) fun a s => ?_
 refine qq s rfl (y_extract s rfl rfl) fun a s => ?_
 refine asg s rfl rfl fun a s => ?_
 refine asg s rfl rfl fun a s => ?_
 apply wN
 apply wQ
 rcases Decidable.em (r14.2 = r19.2) with hs34 | hs34
 ·have hs34e := decide_eq_true hs34
  replace hg := br_t hg hs34
  obtain ⟨r35, hr35, hg⟩ := bind_some hg
  rcases Bool.eq_false_or_eq_true (r35) with hs38 | hs38
  ·replace hg := br_t hg hs38
   rcases Decidable.em (r24.1 = r29.1) with hs39 | hs39
   ·have hs39e := decide_eq_true hs39
    replace hg := br_t hg hs39
    rcases Decidable.em (r24.2 = r29.2) with hs40 | hs40
    ·have hs40e := decide_eq_true hs40
     replace hg := br_t hg hs40
     obtain ⟨r41, hr41, hg⟩ := bind_some hg
     apply wL
     refine mv s rfl rfl fun a s => ?_
     refine mv s rfl rfl fun a s => ?_
     refine qq s rfl (yl_b (y_eql s rfl rfl) hs34e) fun a s => ?_
     refine mv s rfl rfl fun a s => ?_
     refine gm s rfl rfl fun a s => ?_
     refine gm s rfl rfl fun a s => ?_
     refine gl s rfl (l_call (cap := []) s rfl func14 rfl (by kernel_rfl) rfl rfl (c_r41_Same n _ _ s.lt r14.1 (Au18a1) (cu18a1) (s.ft 105 rfl) r19.1 (Au23a1) (cu23a1) (s.ft 107 rfl) r35 hr35) fun v44 a w hK hp s => ?_)
     obtain rfl := hp.trans (congrArg Value.bool hs38)
     refine qq s rfl (y_pick_t s rfl rfl) fun a s => ?_
     refine mv s rfl rfl fun a s => ?_
     refine gm s rfl rfl fun a s => ?_
     refine gm s rfl rfl fun a s => ?_
     refine gy s rfl (yl_b (y_eql s rfl rfl) hs39e) fun a s => ?_
     refine qq s rfl (y_pick_t s rfl rfl) fun a s => ?_
     refine mv s rfl rfl fun a s => ?_
     refine gm s rfl rfl fun a s => ?_
     refine gm s rfl rfl fun a s => ?_
     refine gy s rfl (yl_b (y_eql s rfl rfl) hs40e) fun a s => ?_
     refine qq s rfl (y_pick_t s rfl rfl) fun a s => ?_
     refine mv s rfl rfl fun a s => ?_
     refine gl s rfl (l_call (cap := []) s rfl func6 rfl (by kernel_rfl) rfl rfl (c_law42_exampleHolds n _ _ s.lt  r41 hr41) fun v46 a w hK hp s => ?_)
     obtain rfl := hp
     refine qq s rfl (y_pick_t s rfl rfl) fun a s => ?_
     refine asg s rfl rfl fun a s => ?_
     apply wN
     apply wp_ret
     obtain rfl := Option.some.inj hg
     refine fin1 (fn := Tryz.f4) s rfl (r_tmp s rfl) ?_
     exact rfl
    have hs40e := decide_eq_false hs40
    replace hg := br_f hg hs40
    apply wL
    refine mv s rfl rfl fun a s => ?_
    refine mv s rfl rfl fun a s => ?_
    refine qq s rfl (yl_b (y_eql s rfl rfl) hs34e) fun a s => ?_
    refine mv s rfl rfl fun a s => ?_
    refine gm s rfl rfl fun a s => ?_
    refine gm s rfl rfl fun a s => ?_
    refine gl s rfl (l_call (cap := []) s rfl func14 rfl (by kernel_rfl) rfl rfl (c_r41_Same n _ _ s.lt r14.1 (Au18a1) (cu18a1) (s.ft 105 rfl) r19.1 (Au23a1) (cu23a1) (s.ft 107 rfl) r35 hr35) fun v48 a w hK hp s => ?_)
    obtain rfl := hp.trans (congrArg Value.bool hs38)
    refine qq s rfl (y_pick_t s rfl rfl) fun a s => ?_
    refine mv s rfl rfl fun a s => ?_
    refine gm s rfl rfl fun a s => ?_
    refine gm s rfl rfl fun a s => ?_
    refine gy s rfl (yl_b (y_eql s rfl rfl) hs39e) fun a s => ?_
    refine qq s rfl (y_pick_t s rfl rfl) fun a s => ?_
    refine mv s rfl rfl fun a s => ?_
    refine gm s rfl rfl fun a s => ?_
    refine gm s rfl rfl fun a s => ?_
    refine gy s rfl (yl_b (y_eql s rfl rfl) hs40e) fun a s => ?_
    refine qq s rfl (y_pick_t s rfl rfl) fun a s => ?_
    refine mv s rfl rfl fun a s => ?_
    refine gn s rfl fun a s => ?_
    refine qq s rfl (y_pick_f s rfl rfl) fun a s => ?_
    refine asg s rfl rfl fun a s => ?_
    apply wN
    apply wp_ret
    obtain rfl := Option.some.inj hg
    refine fin1 (fn := Tryz.f4) s rfl (r_tmp s rfl) ?_
    exact rfl
   have hs39e := decide_eq_false hs39
   replace hg := br_f hg hs39
   apply wL
   refine mv s rfl rfl fun a s => ?_
   refine mv s rfl rfl fun a s => ?_
   refine qq s rfl (yl_b (y_eql s rfl rfl) hs34e) fun a s => ?_
   refine mv s rfl rfl fun a s => ?_
   refine gm s rfl rfl fun a s => ?_
   refine gm s rfl rfl fun a s => ?_
   refine gl s rfl (l_call (cap := []) s rfl func14 rfl (by kernel_rfl) rfl rfl (c_r41_Same n _ _ s.lt r14.1 (Au18a1) (cu18a1) (s.ft 105 rfl) r19.1 (Au23a1) (cu23a1) (s.ft 107 rfl) r35 hr35) fun v50 a w hK hp s => ?_)
   obtain rfl := hp.trans (congrArg Value.bool hs38)
   refine qq s rfl (y_pick_t s rfl rfl) fun a s => ?_
   refine mv s rfl rfl fun a s => ?_
   refine gm s rfl rfl fun a s => ?_
   refine gm s rfl rfl fun a s => ?_
   refine gy s rfl (yl_b (y_eql s rfl rfl) hs39e) fun a s => ?_
   refine qq s rfl (y_pick_t s rfl rfl) fun a s => ?_
   refine mv s rfl rfl fun a s => ?_
   refine gn s rfl fun a s => ?_
   refine gn s rfl fun a s => ?_
   refine gn s rfl fun a s => ?_
   refine qq s rfl (y_pick_f s rfl rfl) fun a s => ?_
   refine mv s rfl rfl fun a s => ?_
   refine gn s rfl fun a s => ?_
   refine qq s rfl (y_pick_f s rfl rfl) fun a s => ?_
   refine asg s rfl rfl fun a s => ?_
   apply wN
   apply wp_ret
   obtain rfl := Option.some.inj hg
   refine fin1 (fn := Tryz.f4) s rfl (r_tmp s rfl) ?_
   exact rfl
  replace hg := br_n hg hs38
  apply wL
  refine mv s rfl rfl fun a s => ?_
  refine mv s rfl rfl fun a s => ?_
  refine qq s rfl (yl_b (y_eql s rfl rfl) hs34e) fun a s => ?_
  refine mv s rfl rfl fun a s => ?_
  refine gm s rfl rfl fun a s => ?_
  refine gm s rfl rfl fun a s => ?_
  refine gl s rfl (l_call (cap := []) s rfl func14 rfl (by kernel_rfl) rfl rfl (c_r41_Same n _ _ s.lt r14.1 (Au18a1) (cu18a1) (s.ft 105 rfl) r19.1 (Au23a1) (cu23a1) (s.ft 107 rfl) r35 hr35) fun v52 a w hK hp s => ?_)
  obtain rfl := hp.trans (congrArg Value.bool hs38)
  refine qq s rfl (y_pick_t s rfl rfl) fun a s => ?_
  refine mv s rfl rfl fun a s => ?_
  refine gn s rfl fun a s => ?_
  refine gn s rfl fun a s => ?_
  refine gn s rfl fun a s => ?_
  refine qq s rfl (y_pick_f s rfl rfl) fun a s => ?_
  refine mv s rfl rfl fun a s => ?_
  refine gn s rfl fun a s => ?_
  refine gn s rfl fun a s => ?_
  refine gn s rfl fun a s => ?_
  refine qq s rfl (y_pick_f s rfl rfl) fun a s => ?_
  refine mv s rfl rfl fun a s => ?_
  refine gn s rfl fun a s => ?_
  refine qq s rfl (y_pick_f s rfl rfl) fun a s => ?_
  refine asg s rfl rfl fun a s => ?_
  apply wN
  apply wp_ret
  obtain rfl := Option.some.inj hg
  refine fin1 (fn := Tryz.f4) s rfl (r_tmp s rfl) ?_
  exact rfl
 have hs34e := decide_eq_false hs34
 replace hg := br_f hg hs34
 apply wL
 refine mv s rfl rfl fun a s => ?_
 refine mv s rfl rfl fun a s => ?_
 refine qq s rfl (yl_b (y_eql s rfl rfl) hs34e) fun a s => ?_
 refine mv s rfl rfl fun a s => ?_
 refine gn s rfl fun a s => ?_
 refine gn s rfl fun a s => ?_
 refine gn s rfl fun a s => ?_
 refine qq s rfl (y_pick_f s rfl rfl) fun a s => ?_
 refine mv s rfl rfl fun a s => ?_
 refine gn s rfl fun a s => ?_
 refine gn s rfl fun a s => ?_
 refine gn s rfl fun a s => ?_
 refine qq s rfl (y_pick_f s rfl rfl) fun a s => ?_
 refine mv s rfl rfl fun a s => ?_
 refine gn s rfl fun a s => ?_
 refine gn s rfl fun a s => ?_
 refine gn s rfl fun a s => ?_
 refine qq s rfl (y_pick_f s rfl rfl) fun a s => ?_
 refine mv s rfl rfl fun a s => ?_
 refine gn s rfl fun a s => ?_
 refine qq s rfl (y_pick_f s rfl rfl) fun a s => ?_
 refine asg s rfl rfl fun a s => ?_
 apply wN
 apply wp_ret
 obtain rfl := Option.some.inj hg
 refine fin1 (fn := Tryz.f4) s rfl (r_tmp s rfl) ?_
 exact rfl
end Go.Proofs.YtdicfdfncbmmpaaGreat

