/- Chapter 03: the walk of PosetRelates -/
import Derived.Test.YtoeolfnjblibpaaW8
import Derived.Test.YtoeolfnjblibpaaGl27
namespace Go.Proofs.Ytoeolfnjblibpaa
open Go.Gl Go.RowKit Try
set_option linter.unusedVariables false
set_option linter.unusedSimpArgs false
set_option maxRecDepth 4000

set_option maxHeartbeats 400000 in
theorem c_law03_PosetRelates (n : Nat) (M : Bs) (w0 : World) (hM : ∀ b, M b → b < w0.heap.size) (t_ : (List TypeDecl)) (Ap01 : Option Addr) (cp01 : Nat) (hp01 : SlR RTypeDecl M w0 Ap01 (t_).length cp01 (t_)) (r : Bool) (hg : law03_PosetRelates n t_ = some r) :
    Calls Try.prog 7 [.slice (Ap01) ((t_).length) (cp01)].toArray w0 (Ret noB w0 fun v w => v = .bool (r)) := by
 unfold law03_PosetRelates at hg
 refine enter M noB func7 rfl rfl hM ?_
 intro a s
 replace s := s.es 101 hp01
 apply wR
 refine asg s rfl rfl fun a s => ?_
 apply wN
 apply wQ
 apply wQ
 obtain ⟨r1, hr1, hg⟩ := bind_some hg
 apply wL
 refine mv s rfl rfl fun a s => ?_
 refine l_seq rfl (l_call (cap := []) s rfl func18 rfl (by kernel_rfl) rfl rfl (c_law03_valid n _ _ s.lt t_ (Ap01) (cp01) (s.ft 101 rfl) r1 hr1) fun v4 a w hK hp s => ?_)
 obtain rfl := hp
 refine qq s rfl (y_not s rfl) fun a s => ?_
 apply wN
 refine c_cond s rfl (fun hc6 => ?_) (fun hc6 => ?_)
 ·replace hg := br_t hg hc6
  apply wQ
  obtain ⟨r7, hr7, hg⟩ := bind_some hg
  apply wL
  refine l_seq rfl (l_call (cap := []) s rfl func12 rfl (by kernel_rfl) rfl rfl (c_law03_exampleHolds n _ _ s.lt  r7 hr7) fun v10 a w hK hp s => ?_)
  obtain rfl := hp
  refine asg s rfl rfl fun a s => ?_
  apply wN
  apply wp_ret
  refine p_thenR ?_
  obtain rfl := Option.some.inj hg
  refine fin1 (fn := Try.f7) s rfl (r_tmp s rfl) ?_
  exact rfl
 replace hg := br_n hg hc6
 apply wp_skip
 apply pN
 apply wQ
 obtain ⟨r12, hr12, hg⟩ := bind_some hg
 apply wL
 refine mv s rfl rfl fun a s => ?_
 refine l_seq rfl (l_call (cap := []) s rfl func15 rfl (by kernel_rfl) rfl rfl (c_poset_Order n _ _ s.lt t_ (Ap01) (cp01) (s.ft 101 rfl) r12 hr12) fun v15 a w hK hp s => ?_)
 obtain ⟨Au16a1, cu16a1, rfl, hu16a1⟩ := hp
 replace s := s.ns 103 hu16a1
 refine mv s rfl rfl fun a s => ?_
 refine qq s rfl (y_extract s rfl rfl) fun a s => ?_
 refine qq s rfl (y_extract s rfl rfl) fun a s => ?_
 refine asg s rfl rfl fun a s => ?_
 refine asg s rfl rfl fun a s => ?_
 apply wN
 apply wQ
 apply wQ
 obtain ⟨k17, hg, hk17⟩ := jn_some hg
 refine c_post (fun a w => ∃ (t_18 : Bool), k17 t_18 = some r ∧ St (⟨Try.f7.ntmps, M, noB, w0⟩ : Ctx) [(0, sl Ap01 (t_) cp01), (3, sl Au16a1 (r12.1) cu16a1), (46, .bool (t_18))] [] [(101, slF RTypeDecl (Ap01) ((t_).length) (cp01) (t_)), (103, slF Rep.str (Au16a1) ((r12.1).length) (cu16a1) (r12.1))] a w) ?_ ?_
 ·rcases Decidable.em (r12.2 ≠ 0) with hs19 | hs19
  ·have hs19e := decide_eq_true hs19
   replace hg := br_t hg hs19
   apply wL
   refine mv s rfl rfl fun a s => ?_
   refine qq s rfl (yl_b (y_neq s rfl rfl) hs19e) fun a s => ?_
   refine mv s rfl rfl fun a s => ?_
   refine gn s rfl fun a s => ?_
   refine gn s rfl fun a s => ?_
   refine gn s rfl fun a s => ?_
   refine gn s rfl fun a s => ?_
   refine gn s rfl fun a s => ?_
   refine qq s rfl (y_pick_t s rfl rfl) fun a s => ?_
   refine mv s rfl rfl fun a s => ?_
   refine gn s rfl fun a s => ?_
   refine gn s rfl fun a s => ?_
   refine gn s rfl fun a s => ?_
   refine gn s rfl fun a s => ?_
   refine gn s rfl fun a s => ?_
   refine gn s rfl fun a s => ?_
   refine gn s rfl fun a s => ?_
   refine gn s rfl fun a s => ?_
   refine gn s rfl fun a s => ?_
   refine qq s rfl (y_pick_t s rfl rfl) fun a s => ?_
   refine mv s rfl rfl fun a s => ?_
   refine gn s rfl fun a s => ?_
   refine gn s rfl fun a s => ?_
   refine gn s rfl fun a s => ?_
   refine gn s rfl fun a s => ?_
   refine gn s rfl fun a s => ?_
   refine gn s rfl fun a s => ?_
   refine gn s rfl fun a s => ?_
   refine qq s rfl (y_pick_t s rfl rfl) fun a s => ?_
   apply wN
   exact ⟨(true), hg, (s.sb rfl rfl rfl)⟩
  have hs19e := decide_eq_false hs19
  replace hg := br_f hg hs19
  rcases Decidable.em (((r12.1).length) ≠ ((t_).length)) with hs20 | hs20
  ·have hs20e := decide_eq_true hs20
   replace hg := br_t hg hs20
   apply wL
   refine mv s rfl rfl fun a s => ?_
   refine qq s rfl (yl_b (y_neq s rfl rfl) hs19e) fun a s => ?_
   refine mv s rfl rfl fun a s => ?_
   refine gm s rfl rfl fun a s => ?_
   refine gy s rfl (y_lenSlice s rfl underlying27) fun a s => ?_
   refine gm s rfl rfl fun a s => ?_
   refine gy s rfl (y_lenSlice s rfl underlying22) fun a s => ?_
   refine gy s rfl (yl_b (y_neqN (i := ((r12.1).length)) (j := ((t_).length)) s rfl rfl) hs20e) fun a s => ?_
   refine qq s rfl (y_pick_f s rfl rfl) fun a s => ?_
   refine mv s rfl rfl fun a s => ?_
   refine gn s rfl fun a s => ?_
   refine gn s rfl fun a s => ?_
   refine gn s rfl fun a s => ?_
   refine gn s rfl fun a s => ?_
   refine gn s rfl fun a s => ?_
   refine gn s rfl fun a s => ?_
   refine gn s rfl fun a s => ?_
   refine gn s rfl fun a s => ?_
   refine gn s rfl fun a s => ?_
   refine qq s rfl (y_pick_t s rfl rfl) fun a s => ?_
   refine mv s rfl rfl fun a s => ?_
   refine gn s rfl fun a s => ?_
   refine gn s rfl fun a s => ?_
   refine gn s rfl fun a s => ?_
   refine gn s rfl fun a s => ?_
   refine gn s rfl fun a s => ?_
   refine gn s rfl fun a s => ?_
   refine gn s rfl fun a s => ?_
   refine qq s rfl (y_pick_t s rfl rfl) fun a s => ?_
   apply wN
   exact ⟨(true), hg, (s.sb rfl rfl rfl)⟩
  have hs20e := decide_eq_false hs20
  replace hg := br_f hg hs20
  obtain ⟨x22, hx22, hg⟩ := bind_some hg
  obtain ⟨r24, hr24, hg⟩ := bind_some hg
  rcases Decidable.em (((r24).length) ≠ ((t_).length)) with hs27 | hs27
  ·have hs27e := decide_eq_true hs27
   replace hg := br_t hg hs27
   apply wL
   refine mv s rfl rfl fun a s => ?_
   refine qq s rfl (yl_b (y_neq s rfl rfl) hs19e) fun a s => ?_
   refine mv s rfl rfl fun a s => ?_
   refine gm s rfl rfl fun a s => ?_
   refine gy s rfl (y_lenSlice s rfl underlying27) fun a s => ?_
   refine gm s rfl rfl fun a s => ?_
   refine gy s rfl (y_lenSlice s rfl underlying22) fun a s => ?_
   refine gy s rfl (yl_b (y_neqN (i := ((r12.1).length)) (j := ((t_).length)) s rfl rfl) hs20e) fun a s => ?_
   refine qq s rfl (y_pick_f s rfl rfl) fun a s => ?_
   refine mv s rfl rfl fun a s => ?_
   refine gm s rfl rfl fun a s => ?_
   refine gm s rfl rfl fun a s => ?_
   obtain ⟨p28, hep28, hpp28⟩ := SlR.elemX (s.ft 103 rfl) hx22
   refine gy s rfl (y_elem (sz := 1) (i := 0) s rfl rfl underlying27 rfl hep28 rfl (lt_of_get hx22)) fun a s => ?_
   obtain ⟨hlq29, hmq29, csq29, hdq29, hcq29⟩ := hpp28
   obtain ⟨rfl, lq291⟩ := hdq29
   refine gy s rfl (y_ldp1 s rfl hlq29 hmq29 (hcq29 0 _ rfl) underlying9 rfl) fun a s => ?_
   refine gl s rfl (l_call (cap := []) s rfl func22 rfl (by kernel_rfl) rfl rfl (c_poset_Below n _ _ s.lt t_ (Ap01) (cp01) (s.ft 101 rfl) x22 (by omega) r24 hr24) fun v30 a w hK hp s => ?_)
   obtain ⟨Au31a1, cu31a1, rfl, hu31a1⟩ := hp
   replace s := s.ns 105 hu31a1
   refine gy s rfl (y_lenSlice s rfl underlying27) fun a s => ?_
   refine gm s rfl rfl fun a s => ?_
   refine gy s rfl (y_lenSlice s rfl underlying22) fun a s => ?_
   refine gy s rfl (yl_b (y_neqN (i := ((r24).length)) (j := ((t_).length)) s rfl rfl) hs27e) fun a s => ?_
   refine qq s rfl (y_pick_f s rfl rfl) fun a s => ?_
   refine mv s rfl rfl fun a s => ?_
   refine gn s rfl fun a s => ?_
   refine gn s rfl fun a s => ?_
   refine gn s rfl fun a s => ?_
   refine gn s rfl fun a s => ?_
   refine gn s rfl fun a s => ?_
   refine gn s rfl fun a s => ?_
   refine gn s rfl fun a s => ?_
   refine qq s rfl (y_pick_t s rfl rfl) fun a s => ?_
   apply wN
   exact ⟨(true), hg, (s.sb rfl rfl rfl)⟩
  have hs27e := decide_eq_false hs27
  replace hg := br_f hg hs27
  obtain ⟨r34, hr34, hg⟩ := bind_some hg
  apply wL
  refine mv s rfl rfl fun a s => ?_
  refine qq s rfl (yl_b (y_neq s rfl rfl) hs19e) fun a s => ?_
  refine mv s rfl rfl fun a s => ?_
  refine gm s rfl rfl fun a s => ?_
  refine gy s rfl (y_lenSlice s rfl underlying27) fun a s => ?_
  refine gm s rfl rfl fun a s => ?_
  refine gy s rfl (y_lenSlice s rfl underlying22) fun a s => ?_
  refine gy s rfl (yl_b (y_neqN (i := ((r12.1).length)) (j := ((t_).length)) s rfl rfl) hs20e) fun a s => ?_
  refine qq s rfl (y_pick_f s rfl rfl) fun a s => ?_
  refine mv s rfl rfl fun a s => ?_
  refine gm s rfl rfl fun a s => ?_
  refine gm s rfl rfl fun a s => ?_
  obtain ⟨p37, hep37, hpp37⟩ := SlR.elemX (s.ft 103 rfl) hx22
  refine gy s rfl (y_elem (sz := 1) (i := 0) s rfl rfl underlying27 rfl hep37 rfl (lt_of_get hx22)) fun a s => ?_
  obtain ⟨hlq38, hmq38, csq38, hdq38, hcq38⟩ := hpp37
  obtain ⟨rfl, lq381⟩ := hdq38
  refine gy s rfl (y_ldp1 s rfl hlq38 hmq38 (hcq38 0 _ rfl) underlying9 rfl) fun a s => ?_
  refine gl s rfl (l_call (cap := []) s rfl func22 rfl (by kernel_rfl) rfl rfl (c_poset_Below n _ _ s.lt t_ (Ap01) (cp01) (s.ft 101 rfl) x22 (by omega) r24 hr24) fun v39 a w hK hp s => ?_)
  obtain ⟨Au40a1, cu40a1, rfl, hu40a1⟩ := hp
  replace s := s.ns 107 hu40a1
  refine gy s rfl (y_lenSlice s rfl underlying27) fun a s => ?_
  refine gm s rfl rfl fun a s => ?_
  refine gy s rfl (y_lenSlice s rfl underlying22) fun a s => ?_
  refine gy s rfl (yl_b (y_neqN (i := ((r24).length)) (j := ((t_).length)) s rfl rfl) hs27e) fun a s => ?_
  refine qq s rfl (y_pick_f s rfl rfl) fun a s => ?_
  refine mv s rfl rfl fun a s => ?_
  refine gm s rfl rfl fun a s => ?_
  refine gm s rfl rfl fun a s => ?_
  obtain ⟨p41, hep41, hpp41⟩ := SlR.elemX (s.ft 103 rfl) hx22
  refine gy s rfl (y_elem (sz := 1) (i := 0) s rfl rfl underlying27 rfl hep41 rfl (lt_of_get hx22)) fun a s => ?_
  obtain ⟨hlq42, hmq42, csq42, hdq42, hcq42⟩ := hpp41
  obtain ⟨rfl, lq421⟩ := hdq42
  refine gy s rfl (y_ldp1 s rfl hlq42 hmq42 (hcq42 0 _ rfl) underlying9 rfl) fun a s => ?_
  refine gl s rfl (l_call (cap := []) s rfl func20 rfl (by kernel_rfl) rfl rfl (c_poset_Above n _ _ s.lt t_ (Ap01) (cp01) (s.ft 101 rfl) x22 (by omega) r34 hr34) fun v43 a w hK hp s => ?_)
  obtain ⟨Au44a1, cu44a1, rfl, hu44a1⟩ := hp
  replace s := s.ns 108 hu44a1
  refine gy s rfl (y_lenSlice s rfl underlying27) fun a s => ?_
  refine gy s rfl (y_neqN (i := ((r34).length)) (j := 1) s rfl rfl) fun a s => ?_
  refine qq s rfl (y_pick_f s rfl rfl) fun a s => ?_
  apply wN
  exact ⟨(decide (((r34).length) ≠ 1)), hg, (s.sb rfl rfl rfl)⟩
 clear s a; rintro a w ⟨t_18, hg, s⟩
 subst hk17
 refine c_cond s rfl (fun hc45 => ?_) (fun hc45 => ?_)
 ·replace hg := br_t hg hc45
  apply wR
  refine asg s rfl rfl fun a s => ?_
  apply wN
  apply wp_ret
  refine p_thenR ?_
  obtain rfl := Option.some.inj hg
  refine fin1 (fn := Try.f7) s rfl (r_tmp s rfl) ?_
  exact rfl
 replace hg := br_n hg hc45
 apply wp_skip
 apply pN
 apply wQ
 apply wR
 refine mv s rfl rfl fun a s => ?_
 refine qq s rfl (y_lenSlice s rfl underlying27) fun a s => ?_
 refine mv s rfl rfl fun a s => ?_
 apply wN
 obtain ⟨k46, hg, hk46⟩ := jn_some hg
 refine c_post (fun a w => k46 = some r ∧ St (⟨Try.f7.ntmps, M, noB, w0⟩ : Ctx) [] [] [] a w) ?_ ?_
 ·apply wp_block
  refine c_loop (σ := Nat) (fun m1 a w => ∃ (t_47 : Nat), law03_PosetRelates_L0 n t_ r12 k46 m1 t_47 = some r ∧ St (⟨Try.f7.ntmps, M, noB, w0⟩ : Ctx) [(0, sl Ap01 (t_) cp01), (3, sl Au16a1 (r12.1) cu16a1), (48, vI ((((r12.1).length : Nat) : Int))), (49, vI (((t_47 : Nat) : Int)))] [] [(101, slF RTypeDecl (Ap01) ((t_).length) (cp01) (t_)), (103, slF Rep.str (Au16a1) ((r12.1).length) (cu16a1) (r12.1))] a w) (fun m1 => m1) n ⟨(0), hg, (s.sb rfl rfl rfl)⟩ ?_
  clear s a; rintro m1 a w ⟨t_47, hg, s⟩
  rcases m1 with _ | m1
  ·rw [law03_PosetRelates_L0] at hg; cases hg
  rw [law03_PosetRelates_L0] at hg
  apply wR
  refine qq s rfl (y_lssN (i := t_47) (j := ((r12.1).length)) s rfl rfl) fun a s => ?_
  apply wN
  apply wQ
  refine c_dec s rfl (fun hc48 => ?_) (fun hc48 => ?_)
  ·replace hg := br_t hg hc48
   have hmx49 := SlR.mx (s.ft 103 rfl)
   apply wp_skip
   apply pN
   apply wQ
   obtain ⟨k50, hg, hk50⟩ := jn_some hg
   refine c_post (fun a w => k50 = some r ∧ St (⟨Try.f7.ntmps, M, noB, w0⟩ : Ctx) [(0, sl Ap01 (t_) cp01), (3, sl Au16a1 (r12.1) cu16a1), (48, vI ((((r12.1).length : Nat) : Int))), (49, vI (((t_47 : Nat) : Int)))] [] [(101, slF RTypeDecl (Ap01) ((t_).length) (cp01) (t_)), (103, slF Rep.str (Au16a1) ((r12.1).length) (cu16a1) (r12.1))] a w) ?_ ?_
   ·apply wp_block
    apply wR
    refine mv s rfl rfl fun a s => ?_
    refine asg s rfl rfl fun a s => ?_
    apply wN
    apply wQ
    obtain ⟨x52, hx52, hg⟩ := bind_some hg
    obtain ⟨r54, hr54, hg⟩ := bind_some hg
    apply wL
    refine mv s rfl rfl fun a s => ?_
    refine mv s rfl rfl fun a s => ?_
    refine mv s rfl rfl fun a s => ?_
    obtain ⟨p57, hep57, hpp57⟩ := SlR.elemX (s.ft 103 rfl) hx52
    refine qq s rfl (y_elem (sz := 1) (i := t_47) s rfl rfl underlying27 rfl hep57 rfl (lt_of_get hx52)) fun a s => ?_
    obtain ⟨hlq58, hmq58, csq58, hdq58, hcq58⟩ := hpp57
    obtain ⟨rfl, lq581⟩ := hdq58
    refine qq s rfl (y_ldp1 s rfl hlq58 hmq58 (hcq58 0 _ rfl) underlying9 rfl) fun a s => ?_
    refine l_seq rfl (l_call (cap := []) s rfl func20 rfl (by kernel_rfl) rfl rfl (c_poset_Above n _ _ s.lt t_ (Ap01) (cp01) (s.ft 101 rfl) x52 (by omega) r54 hr54) fun v59 a w hK hp s => ?_)
    obtain ⟨Au60a1, cu60a1, rfl, hu60a1⟩ := hp
    replace s := s.ns 110 hu60a1
    refine asg s rfl rfl fun a s => ?_
    apply wN
    apply wQ
    apply wQ
    obtain ⟨k61, hg, hk61⟩ := jn_some hg
    refine c_post (fun a w => ∃ (t_62 : Bool), k61 t_62 = some r ∧ St (⟨Try.f7.ntmps, M, noB, w0⟩ : Ctx) [(0, sl Ap01 (t_) cp01), (3, sl Au16a1 (r12.1) cu16a1), (5, vI (((t_47 : Nat) : Int))), (6, sl Au60a1 (r54) cu60a1), (48, vI ((((r12.1).length : Nat) : Int))), (49, vI (((t_47 : Nat) : Int))), (72, .bool (t_62))] [] [(101, slF RTypeDecl (Ap01) ((t_).length) (cp01) (t_)), (103, slF Rep.str (Au16a1) ((r12.1).length) (cu16a1) (r12.1)), (110, slF Rep.str (Au60a1) ((r54).length) (cu60a1) (r54))] a w) ?_ ?_
    ·obtain ⟨x64, hx64, hg⟩ := bind_some hg
     obtain ⟨r66, hr66, hg⟩ := bind_some hg
     rcases Bool.eq_false_or_eq_true (!(r66)) with hs69 | hs69
     ·replace hg := br_t hg hs69
      apply wL
      refine mv s rfl rfl fun a s => ?_
      refine mv s rfl rfl fun a s => ?_
      obtain ⟨p70, hep70, hpp70⟩ := SlR.elemX (s.ft 103 rfl) hx64
      refine qq s rfl (y_elem (sz := 1) (i := 0) s rfl rfl underlying27 rfl hep70 rfl (lt_of_get hx64)) fun a s => ?_
      obtain ⟨hlq71, hmq71, csq71, hdq71, hcq71⟩ := hpp70
      obtain ⟨rfl, lq711⟩ := hdq71
      refine qq s rfl (y_ldp1 s rfl hlq71 hmq71 (hcq71 0 _ rfl) underlying9 rfl) fun a s => ?_
      refine l_seq rfl (l_call (cap := []) s rfl func28 rfl (by kernel_rfl) rfl rfl (c_r03_Among n _ _ s.lt r54 (Au60a1) (cu60a1) (s.ft 110 rfl) x64 (by omega) r66 hr66) fun v72 a w hK hp s => ?_)
      obtain rfl := hp
      refine qq s rfl (yl_b (y_not s rfl) hs69) fun a s => ?_
      refine mv s rfl rfl fun a s => ?_
      refine gn s rfl fun a s => ?_
      refine gn s rfl fun a s => ?_
      refine gn s rfl fun a s => ?_
      refine gn s rfl fun a s => ?_
      refine gn s rfl fun a s => ?_
      refine gn s rfl fun a s => ?_
      refine gn s rfl fun a s => ?_
      refine qq s rfl (y_pick_t s rfl rfl) fun a s => ?_
      apply wN
      exact ⟨(true), hg, (s.sb rfl rfl rfl)⟩
     replace hg := br_n hg hs69
     obtain ⟨r76, hr76, hg⟩ := bind_some hg
     apply wL
     refine mv s rfl rfl fun a s => ?_
     refine mv s rfl rfl fun a s => ?_
     obtain ⟨p79, hep79, hpp79⟩ := SlR.elemX (s.ft 103 rfl) hx64
     refine qq s rfl (y_elem (sz := 1) (i := 0) s rfl rfl underlying27 rfl hep79 rfl (lt_of_get hx64)) fun a s => ?_
     obtain ⟨hlq80, hmq80, csq80, hdq80, hcq80⟩ := hpp79
     obtain ⟨rfl, lq801⟩ := hdq80
     refine qq s rfl (y_ldp1 s rfl hlq80 hmq80 (hcq80 0 _ rfl) underlying9 rfl) fun a s => ?_
     refine l_seq rfl (l_call (cap := []) s rfl func28 rfl (by kernel_rfl) rfl rfl (c_r03_Among n _ _ s.lt r54 (Au60a1) (cu60a1) (s.ft 110 rfl) x64 (by omega) r66 hr66) fun v81 a w hK hp s => ?_)
     obtain rfl := hp
     refine qq s rfl (yl_b (y_not s rfl) hs69) fun a s => ?_
     refine mv s rfl rfl fun a s => ?_
     refine gm s rfl rfl fun a s => ?_
     refine gm s rfl rfl fun a s => ?_
     refine gm s rfl rfl fun a s => ?_
     obtain ⟨p83, hep83, hpp83⟩ := SlR.elemX (s.ft 103 rfl) hx52
     refine gy s rfl (y_elem (sz := 1) (i := t_47) s rfl rfl underlying27 rfl hep83 rfl (lt_of_get hx52)) fun a s => ?_
     obtain ⟨hlq84, hmq84, csq84, hdq84, hcq84⟩ := hpp83
     obtain ⟨rfl, lq841⟩ := hdq84
     refine gy s rfl (y_ldp1 s rfl hlq84 hmq84 (hcq84 0 _ rfl) underlying9 rfl) fun a s => ?_
     refine gl s rfl (l_call (cap := []) s rfl func28 rfl (by kernel_rfl) rfl rfl (c_r03_Among n _ _ s.lt r54 (Au60a1) (cu60a1) (s.ft 110 rfl) x52 (by omega) r76 hr76) fun v85 a w hK hp s => ?_)
     obtain rfl := hp
     refine gy s rfl (y_not s rfl) fun a s => ?_
     refine qq s rfl (y_pick_f s rfl rfl) fun a s => ?_
     apply wN
     exact ⟨(!(r76)), hg, (s.sb rfl rfl rfl)⟩
    clear s a; rintro a w ⟨t_62, hg, s⟩
    subst hk61
    refine c_cond s rfl (fun hc87 => ?_) (fun hc87 => ?_)
    ·replace hg := br_t hg hc87
     apply wR
     refine asg s rfl rfl fun a s => ?_
     apply wN
     apply wp_ret
     refine p_thenR ?_
     refine p_inR ?_
     refine p_thenR ?_
     refine p_thenR ?_
     refine p_inR ?_
     refine p_thenR ?_
     obtain rfl := Option.some.inj hg
     refine fin1 (fn := Try.f7) s rfl (r_tmp s rfl) ?_
     exact rfl
    replace hg := br_n hg hc87
    apply wp_skip
    apply pN
    apply wR
    refine mv s rfl rfl fun a s => ?_
    refine qq s rfl (y_lenSlice s rfl underlying27) fun a s => ?_
    refine mv s rfl rfl fun a s => ?_
    apply wN
    apply wp_block
    refine c_loop (σ := Nat) (fun m2 a w => ∃ (t_88 : Nat), law03_PosetRelates_L1 n t_ r12 t_47 k50 x52 r54 m2 t_88 = some r ∧ St (⟨Try.f7.ntmps, M, noB, w0⟩ : Ctx) [(0, sl Ap01 (t_) cp01), (3, sl Au16a1 (r12.1) cu16a1), (5, vI (((t_47 : Nat) : Int))), (6, sl Au60a1 (r54) cu60a1), (48, vI ((((r12.1).length : Nat) : Int))), (49, vI (((t_47 : Nat) : Int))), (74, vI ((((r12.1).length : Nat) : Int))), (75, vI (((t_88 : Nat) : Int)))] [] [(101, slF RTypeDecl (Ap01) ((t_).length) (cp01) (t_)), (103, slF Rep.str (Au16a1) ((r12.1).length) (cu16a1) (r12.1)), (110, slF Rep.str (Au60a1) ((r54).length) (cu60a1) (r54))] a w) (fun m2 => m2) n ⟨(0), hg, (s.sb rfl rfl rfl)⟩ ?_
    clear s a; rintro m2 a w ⟨t_88, hg, s⟩
    rcases m2 with _ | m2
    ·rw [law03_PosetRelates_L1] at hg; cases hg
    rw [law03_PosetRelates_L1] at hg
    apply wR
    refine qq s rfl (y_lssN (i := t_88) (j := ((r12.1).length)) s rfl rfl) fun a s => ?_
    apply wN
    apply wQ
    refine c_dec s rfl (fun hc89 => ?_) (fun hc89 => ?_)
    ·replace hg := br_t hg hc89
     have hmx90 := SlR.mx (s.ft 103 rfl)
     apply wp_skip
     apply pN
     apply wQ
     apply wp_block
     apply wR
     refine mv s rfl rfl fun a s => ?_
     refine asg s rfl rfl fun a s => ?_
     apply wN
     apply wQ
     obtain ⟨x92, hx92, hg⟩ := bind_some hg
     obtain ⟨r94, hr94, hg⟩ := bind_some hg
     apply wL
     refine mv s rfl rfl fun a s => ?_
     refine mv s rfl rfl fun a s => ?_
     refine mv s rfl rfl fun a s => ?_
     obtain ⟨p97, hep97, hpp97⟩ := SlR.elemX (s.ft 103 rfl) hx92
     refine qq s rfl (y_elem (sz := 1) (i := t_88) s rfl rfl underlying27 rfl hep97 rfl (lt_of_get hx92)) fun a s => ?_
     obtain ⟨hlq98, hmq98, csq98, hdq98, hcq98⟩ := hpp97
     obtain ⟨rfl, lq981⟩ := hdq98
     refine qq s rfl (y_ldp1 s rfl hlq98 hmq98 (hcq98 0 _ rfl) underlying9 rfl) fun a s => ?_
     refine l_seq rfl (l_call (cap := []) s rfl func28 rfl (by kernel_rfl) rfl rfl (c_r03_Among n _ _ s.lt r54 (Au60a1) (cu60a1) (s.ft 110 rfl) x92 (by omega) r94 hr94) fun v99 a w hK hp s => ?_)
     obtain rfl := hp
     refine asg s rfl rfl fun a s => ?_
     apply wN
     apply wQ
     obtain ⟨k101, hg, hk101⟩ := jn_some hg
     refine c_post (fun a w => ∃ (t_102 : Bool), k101 t_102 = some r ∧ St (⟨Try.f7.ntmps, M, noB, w0⟩ : Ctx) [(0, sl Ap01 (t_) cp01), (3, sl Au16a1 (r12.1) cu16a1), (5, vI (((t_47 : Nat) : Int))), (6, sl Au60a1 (r54) cu60a1), (48, vI ((((r12.1).length : Nat) : Int))), (49, vI (((t_47 : Nat) : Int))), (74, vI ((((r12.1).length : Nat) : Int))), (75, vI (((t_88 : Nat) : Int))), (125, .bool (t_102))] [] [(101, slF RTypeDecl (Ap01) ((t_).length) (cp01) (t_)), (103, slF Rep.str (Au16a1) ((r12.1).length) (cu16a1) (r12.1)), (110, slF Rep.str (Au60a1) ((r54).length) (cu60a1) (r54))] a w) ?_ ?_
     ·obtain ⟨r105, hr105, hg⟩ := bind_some hg
      obtain ⟨r110, hr110, hg⟩ := bind_some hg
      rcases Bool.eq_false_or_eq_true (!(r94 == r110)) with hs113 | hs113
      ·replace hg := br_t hg hs113
       refine d_steps s [] rfl ?_; clear s; intro wr hZ s; have hR := s.wd; have hE := Ext.init hR 0
       refine n_q 0 0 s hR rfl (by kernel_rfl) (by kernel_rfl) (by kernel_rfl) rfl rfl rfl (y_move s rfl) fun a s => ?_
       refine n_q 1 0 s hR rfl (by kernel_rfl) (by kernel_rfl) (by kernel_rfl) rfl rfl rfl (y_move s rfl) fun a s => ?_
       refine n_q 2 0 s hR rfl (by kernel_rfl) (by kernel_rfl) (by kernel_rfl) rfl rfl rfl (y_move s rfl) fun a s => ?_
       refine n_q 3 0 s hR rfl (by kernel_rfl) (by kernel_rfl) (by kernel_rfl) rfl rfl rfl (y_move s rfl) fun a s => ?_
       obtain ⟨p114, hep114, hpp114⟩ := SlR.elemX (s.ft 103 rfl) hx92
       refine n_q 4 0 s hR rfl (by kernel_rfl) (by kernel_rfl) (by kernel_rfl) rfl rfl rfl (y_elem (sz := 1) (i := t_88) s rfl rfl underlying27 rfl hep114 rfl (lt_of_get hx92)) fun a s => ?_
       obtain ⟨hlq115, hmq115, csq115, hdq115, hcq115⟩ := (SlR.again (s.ft 103 rfl) hx92 hep114)
       obtain ⟨rfl, lq1151⟩ := hdq115
       refine n_q 5 0 s hR rfl (by kernel_rfl) (by kernel_rfl) (by kernel_rfl) rfl rfl rfl (y_ldp1 s rfl hlq115 hmq115 (hcq115 0 _ rfl) underlying9 rfl) fun a s => ?_
       refine n_q 7 0 s hR rfl (by kernel_rfl) (by kernel_rfl) (by kernel_rfl) rfl rfl rfl (y_move s rfl) fun a s => ?_
       refine n_q 8 0 s hR rfl (by kernel_rfl) (by kernel_rfl) (by kernel_rfl) rfl rfl rfl (y_move s rfl) fun a s => ?_
       obtain ⟨p116, hep116, hpp116⟩ := SlR.elemX (s.ft 103 rfl) hx52
       refine n_q 9 0 s hR rfl (by kernel_rfl) (by kernel_rfl) (by kernel_rfl) rfl rfl rfl (y_elem (sz := 1) (i := t_47) s rfl rfl underlying27 rfl hep116 rfl (lt_of_get hx52)) fun a s => ?_
       obtain ⟨hlq117, hmq117, csq117, hdq117, hcq117⟩ := (SlR.again (s.ft 103 rfl) hx52 hep116)
       obtain ⟨rfl, lq1171⟩ := hdq117
       refine n_q 10 0 s hR rfl (by kernel_rfl) (by kernel_rfl) (by kernel_rfl) rfl rfl rfl (y_ldp1 s rfl hlq117 hmq117 (hcq117 0 _ rfl) underlying9 rfl) fun a s => ?_
       refine n_1 6 s (by kernel_rfl) rfl rfl (l_call (cap := []) s rfl func22 rfl (by kernel_rfl) rfl rfl (c_poset_Below n _ _ s.lt t_ (Ap01) (cp01) (s.ft 101 rfl) x92 (by omega) r105 hr105) fun v118 a w hK hp s => ?_)
       replace hE := hE.grow hK; replace hZ := Nat.le_trans hZ hK.size; refine ⟨fun g _ h => h.grow hK, ?_⟩; clear hK
       obtain ⟨Au119a1, cu119a1, rfl, hu119a1⟩ := hp
       replace s := s.ns 112 hu119a1
       refine n_1 11 s (by kernel_rfl) rfl rfl (l_call (cap := []) s rfl func28 rfl (by kernel_rfl) rfl rfl (c_r03_Among n _ _ s.lt r105 (Au119a1) (cu119a1) (s.ft 112 rfl) x52 (by omega) r110 hr110) fun v120 a w hK hp s => ?_)
       replace hE := hE.grow hK; replace hZ := Nat.le_trans hZ hK.size; refine ⟨fun g _ h => h.grow hK, ?_⟩; clear hK
       obtain rfl := hp
       refine n_1 12 s (by kernel_rfl) rfl rfl (l_quiet s rfl rfl (yl_b (y_bne s rfl rfl underlying4) hs113) fun a s => ?_); refine ⟨fun g _ h => h, ?_⟩
       refine n_1 13 s (by kernel_rfl) rfl rfl (l_quiet s rfl rfl (y_move s rfl) fun a s => ?_); refine ⟨fun g _ h => h, ?_⟩
       refine n_pass 14 s (by kernel_rfl) rfl ⟨_, _, _, rfl, rfl, rfl, rfl⟩ rfl rfl fun a s => ?_
       refine n_pass 15 s (by kernel_rfl) rfl ⟨_, _, _, rfl, rfl, rfl, rfl⟩ rfl rfl fun a s => ?_
       refine n_qlpass 16 s hE rfl (by kernel_rfl) (by kernel_rfl) (by kernel_rfl) rfl ⟨_, _, _, rfl, rfl, rfl, rfl⟩ rfl fun a s => ?_
       refine n_pass 17 s (by kernel_rfl) rfl ⟨_, _, _, rfl, rfl, rfl, rfl⟩ rfl rfl fun a s => ?_
       refine n_pass 18 s (by kernel_rfl) rfl ⟨_, _, _, rfl, rfl, rfl, rfl⟩ rfl rfl fun a s => ?_
       refine n_pass 19 s (by kernel_rfl) rfl ⟨_, _, _, rfl, rfl, rfl, rfl⟩ rfl rfl fun a s => ?_
       refine n_1 20 s (by kernel_rfl) rfl rfl (l_quiet s rfl rfl (y_pick_t s rfl rfl) fun a s => ?_); refine ⟨fun g _ h => h, ?_⟩
       refine n_1 21 s (by kernel_rfl) rfl rfl (l_quiet s rfl rfl (y_move s rfl) fun a s => ?_); refine ⟨fun g _ h => h, ?_⟩
       refine n_pass 22 s (by kernel_rfl) rfl ⟨_, _, _, rfl, rfl, rfl, rfl⟩ rfl rfl fun a s => ?_
       refine n_pass 23 s (by kernel_rfl) rfl ⟨_, _, _, rfl, rfl, rfl, rfl⟩ rfl rfl fun a s => ?_
       refine n_qlpass 24 s hE rfl (by kernel_rfl) (by kernel_rfl) (by kernel_rfl) rfl ⟨_, _, _, rfl, rfl, rfl, rfl⟩ rfl fun a s => ?_
       refine n_pass 25 s (by kernel_rfl) rfl ⟨_, _, _, rfl, rfl, rfl, rfl⟩ rfl rfl fun a s => ?_
       refine n_pass 26 s (by kernel_rfl) rfl ⟨_, _, _, rfl, rfl, rfl, rfl⟩ rfl rfl fun a s => ?_
       refine n_pass 27 s (by kernel_rfl) rfl ⟨_, _, _, rfl, rfl, rfl, rfl⟩ rfl rfl fun a s => ?_
       refine n_pass 28 s (by kernel_rfl) rfl ⟨_, _, _, rfl, rfl, rfl, rfl⟩ rfl rfl fun a s => ?_
       refine n_qlpass 29 s hE rfl (by kernel_rfl) (by kernel_rfl) (by kernel_rfl) rfl ⟨_, _, _, rfl, rfl, rfl, rfl⟩ rfl fun a s => ?_
       refine n_qlpass 30 s hE rfl (by kernel_rfl) (by kernel_rfl) (by kernel_rfl) rfl ⟨_, _, _, rfl, rfl, rfl, rfl⟩ rfl fun a s => ?_
       refine n_qlpass 31 s hE rfl (by kernel_rfl) (by kernel_rfl) (by kernel_rfl) rfl ⟨_, _, _, rfl, rfl, rfl, rfl⟩ rfl fun a s => ?_
       refine n_qlpass 32 s hE rfl (by kernel_rfl) (by kernel_rfl) (by kernel_rfl) rfl ⟨_, _, _, rfl, rfl, rfl, rfl⟩ rfl fun a s => ?_
       refine n_qlpass 33 s hE rfl (by kernel_rfl) (by kernel_rfl) (by kernel_rfl) rfl ⟨_, _, _, rfl, rfl, rfl, rfl⟩ rfl fun a s => ?_
       refine n_qlpass 34 s hE rfl (by kernel_rfl) (by kernel_rfl) (by kernel_rfl) rfl ⟨_, _, _, rfl, rfl, rfl, rfl⟩ rfl fun a s => ?_
       refine n_qlpass 35 s hE rfl (by kernel_rfl) (by kernel_rfl) (by kernel_rfl) rfl ⟨_, _, _, rfl, rfl, rfl, rfl⟩ rfl fun a s => ?_
       refine n_pass 36 s (by kernel_rfl) rfl ⟨_, _, _, rfl, rfl, rfl, rfl⟩ rfl rfl fun a s => ?_
       refine n_pass 37 s (by kernel_rfl) rfl ⟨_, _, _, rfl, rfl, rfl, rfl⟩ rfl rfl fun a s => ?_
       refine n_pass 38 s (by kernel_rfl) rfl ⟨_, _, _, rfl, rfl, rfl, rfl⟩ rfl rfl fun a s => ?_
       refine n_pass 39 s (by kernel_rfl) rfl ⟨_, _, _, rfl, rfl, rfl, rfl⟩ rfl rfl fun a s => ?_
       refine n_pass 40 s (by kernel_rfl) rfl ⟨_, _, _, rfl, rfl, rfl, rfl⟩ rfl rfl fun a s => ?_
       refine n_1 41 s (by kernel_rfl) rfl rfl (l_quiet s rfl rfl (y_pick_t s rfl rfl) fun a s => ?_); refine ⟨fun g _ h => h, ?_⟩
       refine n_end (by kernel_rfl) ?_; clear hR hZ hE
       apply pN
       exact ⟨(true), hg, (s.sb rfl rfl rfl)⟩
      replace hg := br_n hg hs113
      rcases Bool.eq_false_or_eq_true (r94) with hs122 | hs122
      ·replace hg := br_t hg hs122
       have hs123 : (!(true == r110)) = false := by have q := hs113; rw [hs122] at q; exact q
       rcases Decidable.em (t_47 < t_88) with hs124 | hs124
       ·have hs124e := decide_eq_true hs124
        replace hg := br_t hg hs124
        refine d_steps s [] rfl ?_; clear s; intro wr hZ s; have hR := s.wd; have hE := Ext.init hR 0
        refine n_q 0 0 s hR rfl (by kernel_rfl) (by kernel_rfl) (by kernel_rfl) rfl rfl rfl (yl_b (y_move s rfl) hs122) fun a s => ?_
        refine n_q 1 0 s hR rfl (by kernel_rfl) (by kernel_rfl) (by kernel_rfl) rfl rfl rfl (y_move s rfl) fun a s => ?_
        refine n_q 2 0 s hR rfl (by kernel_rfl) (by kernel_rfl) (by kernel_rfl) rfl rfl rfl (y_move s rfl) fun a s => ?_
        refine n_q 3 0 s hR rfl (by kernel_rfl) (by kernel_rfl) (by kernel_rfl) rfl rfl rfl (y_move s rfl) fun a s => ?_
        obtain ⟨p125, hep125, hpp125⟩ := SlR.elemX (s.ft 103 rfl) hx92
        refine n_q 4 0 s hR rfl (by kernel_rfl) (by kernel_rfl) (by kernel_rfl) rfl rfl rfl (y_elem (sz := 1) (i := t_88) s rfl rfl underlying27 rfl hep125 rfl (lt_of_get hx92)) fun a s => ?_
        obtain ⟨hlq126, hmq126, csq126, hdq126, hcq126⟩ := (SlR.again (s.ft 103 rfl) hx92 hep125)
        obtain ⟨rfl, lq1261⟩ := hdq126
        refine n_q 5 0 s hR rfl (by kernel_rfl) (by kernel_rfl) (by kernel_rfl) rfl rfl rfl (y_ldp1 s rfl hlq126 hmq126 (hcq126 0 _ rfl) underlying9 rfl) fun a s => ?_
        refine n_q 7 0 s hR rfl (by kernel_rfl) (by kernel_rfl) (by kernel_rfl) rfl rfl rfl (y_move s rfl) fun a s => ?_
        refine n_q 8 0 s hR rfl (by kernel_rfl) (by kernel_rfl) (by kernel_rfl) rfl rfl rfl (y_move s rfl) fun a s => ?_
        obtain ⟨p127, hep127, hpp127⟩ := SlR.elemX (s.ft 103 rfl) hx52
        refine n_q 9 0 s hR rfl (by kernel_rfl) (by kernel_rfl) (by kernel_rfl) rfl rfl rfl (y_elem (sz := 1) (i := t_47) s rfl rfl underlying27 rfl hep127 rfl (lt_of_get hx52)) fun a s => ?_
        obtain ⟨hlq128, hmq128, csq128, hdq128, hcq128⟩ := (SlR.again (s.ft 103 rfl) hx52 hep127)
        obtain ⟨rfl, lq1281⟩ := hdq128
        refine n_q 10 0 s hR rfl (by kernel_rfl) (by kernel_rfl) (by kernel_rfl) rfl rfl rfl (y_ldp1 s rfl hlq128 hmq128 (hcq128 0 _ rfl) underlying9 rfl) fun a s => ?_
        refine n_1 6 s (by kernel_rfl) rfl rfl (l_call (cap := []) s rfl func22 rfl (by kernel_rfl) rfl rfl (c_poset_Below n _ _ s.lt t_ (Ap01) (cp01) (s.ft 101 rfl) x92 (by omega) r105 hr105) fun v129 a w hK hp s => ?_)
        replace hE := hE.grow hK; replace hZ := Nat.le_trans hZ hK.size; refine ⟨fun g _ h => h.grow hK, ?_⟩; clear hK
        obtain ⟨Au130a1, cu130a1, rfl, hu130a1⟩ := hp
        replace s := s.ns 113 hu130a1
        refine n_1 11 s (by kernel_rfl) rfl rfl (l_call (cap := []) s rfl func28 rfl (by kernel_rfl) rfl rfl (c_r03_Among n _ _ s.lt r105 (Au130a1) (cu130a1) (s.ft 113 rfl) x52 (by omega) r110 hr110) fun v131 a w hK hp s => ?_)
        replace hE := hE.grow hK; replace hZ := Nat.le_trans hZ hK.size; refine ⟨fun g _ h => h.grow hK, ?_⟩; clear hK
        obtain rfl := hp
        refine n_1 12 s (by kernel_rfl) rfl rfl (l_quiet s rfl rfl (yl_b (y_bne s rfl rfl underlying4) hs123) fun a s => ?_); refine ⟨fun g _ h => h, ?_⟩
        refine n_1 13 s (by kernel_rfl) rfl rfl (l_quiet s rfl rfl (y_move s rfl) fun a s => ?_); refine ⟨fun g _ h => h, ?_⟩
        refine n_1 14 s (by kernel_rfl) rfl ⟨_, _, _, rfl, rfl, rfl, rfl⟩ (l_quiet s rfl rfl (yl_b (y_move s rfl) hs122) fun a s => ?_); refine ⟨fun g _ h => h, ?_⟩
        refine n_1 15 s (by kernel_rfl) rfl ⟨_, _, _, rfl, rfl, rfl, rfl⟩ (l_quiet s rfl rfl (y_move s rfl) fun a s => ?_); refine ⟨fun g _ h => h, ?_⟩
        refine n_ql 16 s hE rfl (by kernel_rfl) (by kernel_rfl) (by kernel_rfl) rfl ⟨_, _, _, rfl, rfl, rfl, rfl⟩ rfl (fun w' s => y_move s rfl) fun a s => ?_
        refine n_1 17 s (by kernel_rfl) rfl ⟨_, _, _, rfl, rfl, rfl, rfl⟩ (l_quiet s rfl rfl (y_move s rfl) fun a s => ?_); refine ⟨fun g _ h => h, ?_⟩
        refine n_1 18 s (by kernel_rfl) rfl ⟨_, _, _, rfl, rfl, rfl, rfl⟩ (l_quiet s rfl rfl (yl_b (y_gtrN (i := t_88) (j := t_47) s rfl rfl) hs124e) fun a s => ?_); refine ⟨fun g _ h => h, ?_⟩
        refine n_1 19 s (by kernel_rfl) rfl ⟨_, _, _, rfl, rfl, rfl, rfl⟩ (l_quiet s rfl rfl (y_pick_t s rfl rfl) fun a s => ?_); refine ⟨fun g _ h => h, ?_⟩
        refine n_1 20 s (by kernel_rfl) rfl rfl (l_quiet s rfl rfl (y_pick_f s rfl rfl) fun a s => ?_); refine ⟨fun g _ h => h, ?_⟩
        refine n_1 21 s (by kernel_rfl) rfl rfl (l_quiet s rfl rfl (y_move s rfl) fun a s => ?_); refine ⟨fun g _ h => h, ?_⟩
        refine n_pass 22 s (by kernel_rfl) rfl ⟨_, _, _, rfl, rfl, rfl, rfl⟩ rfl rfl fun a s => ?_
        refine n_pass 23 s (by kernel_rfl) rfl ⟨_, _, _, rfl, rfl, rfl, rfl⟩ rfl rfl fun a s => ?_
        refine n_qlpass 24 s hE rfl (by kernel_rfl) (by kernel_rfl) (by kernel_rfl) rfl ⟨_, _, _, rfl, rfl, rfl, rfl⟩ rfl fun a s => ?_
        refine n_pass 25 s (by kernel_rfl) rfl ⟨_, _, _, rfl, rfl, rfl, rfl⟩ rfl rfl fun a s => ?_
        refine n_pass 26 s (by kernel_rfl) rfl ⟨_, _, _, rfl, rfl, rfl, rfl⟩ rfl rfl fun a s => ?_
        refine n_pass 27 s (by kernel_rfl) rfl ⟨_, _, _, rfl, rfl, rfl, rfl⟩ rfl rfl fun a s => ?_
        refine n_pass 28 s (by kernel_rfl) rfl ⟨_, _, _, rfl, rfl, rfl, rfl⟩ rfl rfl fun a s => ?_
        refine n_qlpass 29 s hE rfl (by kernel_rfl) (by kernel_rfl) (by kernel_rfl) rfl ⟨_, _, _, rfl, rfl, rfl, rfl⟩ rfl fun a s => ?_
        refine n_qlpass 30 s hE rfl (by kernel_rfl) (by kernel_rfl) (by kernel_rfl) rfl ⟨_, _, _, rfl, rfl, rfl, rfl⟩ rfl fun a s => ?_
        refine n_qlpass 31 s hE rfl (by kernel_rfl) (by kernel_rfl) (by kernel_rfl) rfl ⟨_, _, _, rfl, rfl, rfl, rfl⟩ rfl fun a s => ?_
        refine n_qlpass 32 s hE rfl (by kernel_rfl) (by kernel_rfl) (by kernel_rfl) rfl ⟨_, _, _, rfl, rfl, rfl, rfl⟩ rfl fun a s => ?_
        refine n_qlpass 33 s hE rfl (by kernel_rfl) (by kernel_rfl) (by kernel_rfl) rfl ⟨_, _, _, rfl, rfl, rfl, rfl⟩ rfl fun a s => ?_
        refine n_qlpass 34 s hE rfl (by kernel_rfl) (by kernel_rfl) (by kernel_rfl) rfl ⟨_, _, _, rfl, rfl, rfl, rfl⟩ rfl fun a s => ?_
        refine n_qlpass 35 s hE rfl (by kernel_rfl) (by kernel_rfl) (by kernel_rfl) rfl ⟨_, _, _, rfl, rfl, rfl, rfl⟩ rfl fun a s => ?_
        refine n_pass 36 s (by kernel_rfl) rfl ⟨_, _, _, rfl, rfl, rfl, rfl⟩ rfl rfl fun a s => ?_
        refine n_pass 37 s (by kernel_rfl) rfl ⟨_, _, _, rfl, rfl, rfl, rfl⟩ rfl rfl fun a s => ?_
        refine n_pass 38 s (by kernel_rfl) rfl ⟨_, _, _, rfl, rfl, rfl, rfl⟩ rfl rfl fun a s => ?_
        refine n_pass 39 s (by kernel_rfl) rfl ⟨_, _, _, rfl, rfl, rfl, rfl⟩ rfl rfl fun a s => ?_
        refine n_pass 40 s (by kernel_rfl) rfl ⟨_, _, _, rfl, rfl, rfl, rfl⟩ rfl rfl fun a s => ?_
        refine n_1 41 s (by kernel_rfl) rfl rfl (l_quiet s rfl rfl (y_pick_t s rfl rfl) fun a s => ?_); refine ⟨fun g _ h => h, ?_⟩
        refine n_end (by kernel_rfl) ?_; clear hR hZ hE
        apply pN
        exact ⟨(true), hg, (s.sb rfl rfl rfl)⟩
       have hs124e := decide_eq_false hs124
       replace hg := br_f hg hs124
       rcases Decidable.em (t_88 ≠ t_47) with hs133 | hs133
       ·have hs133e := decide_eq_true hs133
        replace hg := br_t hg hs133
        obtain ⟨r136, hr136, hg⟩ := bind_some hg
        obtain ⟨r141, hr141, hg⟩ := bind_some hg
        refine d_steps s [] rfl ?_; clear s; intro wr hZ s; have hR := s.wd; have hE := Ext.init hR 0
        refine n_q 0 0 s hR rfl (by kernel_rfl) (by kernel_rfl) (by kernel_rfl) rfl rfl rfl (yl_b (y_move s rfl) hs122) fun a s => ?_
        refine n_q 1 0 s hR rfl (by kernel_rfl) (by kernel_rfl) (by kernel_rfl) rfl rfl rfl (y_move s rfl) fun a s => ?_
        refine n_q 2 0 s hR rfl (by kernel_rfl) (by kernel_rfl) (by kernel_rfl) rfl rfl rfl (y_move s rfl) fun a s => ?_
        refine n_q 3 0 s hR rfl (by kernel_rfl) (by kernel_rfl) (by kernel_rfl) rfl rfl rfl (y_move s rfl) fun a s => ?_
        obtain ⟨p144, hep144, hpp144⟩ := SlR.elemX (s.ft 103 rfl) hx92
        refine n_q 4 0 s hR rfl (by kernel_rfl) (by kernel_rfl) (by kernel_rfl) rfl rfl rfl (y_elem (sz := 1) (i := t_88) s rfl rfl underlying27 rfl hep144 rfl (lt_of_get hx92)) fun a s => ?_
        obtain ⟨hlq145, hmq145, csq145, hdq145, hcq145⟩ := (SlR.again (s.ft 103 rfl) hx92 hep144)
        obtain ⟨rfl, lq1451⟩ := hdq145
        refine n_q 5 0 s hR rfl (by kernel_rfl) (by kernel_rfl) (by kernel_rfl) rfl rfl rfl (y_ldp1 s rfl hlq145 hmq145 (hcq145 0 _ rfl) underlying9 rfl) fun a s => ?_
        refine n_q 7 0 s hR rfl (by kernel_rfl) (by kernel_rfl) (by kernel_rfl) rfl rfl rfl (y_move s rfl) fun a s => ?_
        refine n_q 8 0 s hR rfl (by kernel_rfl) (by kernel_rfl) (by kernel_rfl) rfl rfl rfl (y_move s rfl) fun a s => ?_
        obtain ⟨p146, hep146, hpp146⟩ := SlR.elemX (s.ft 103 rfl) hx52
        refine n_q 9 0 s hR rfl (by kernel_rfl) (by kernel_rfl) (by kernel_rfl) rfl rfl rfl (y_elem (sz := 1) (i := t_47) s rfl rfl underlying27 rfl hep146 rfl (lt_of_get hx52)) fun a s => ?_
        obtain ⟨hlq147, hmq147, csq147, hdq147, hcq147⟩ := (SlR.again (s.ft 103 rfl) hx52 hep146)
        obtain ⟨rfl, lq1471⟩ := hdq147
        refine n_q 10 0 s hR rfl (by kernel_rfl) (by kernel_rfl) (by kernel_rfl) rfl rfl rfl (y_ldp1 s rfl hlq147 hmq147 (hcq147 0 _ rfl) underlying9 rfl) fun a s => ?_
        refine n_1 6 s (by kernel_rfl) rfl rfl (l_call (cap := []) s rfl func22 rfl (by kernel_rfl) rfl rfl (c_poset_Below n _ _ s.lt t_ (Ap01) (cp01) (s.ft 101 rfl) x92 (by omega) r105 hr105) fun v148 a w hK hp s => ?_)
        replace hE := hE.grow hK; replace hZ := Nat.le_trans hZ hK.size; refine ⟨fun g _ h => h.grow hK, ?_⟩; clear hK
        obtain ⟨Au149a1, cu149a1, rfl, hu149a1⟩ := hp
        replace s := s.ns 115 hu149a1
        refine n_1 11 s (by kernel_rfl) rfl rfl (l_call (cap := []) s rfl func28 rfl (by kernel_rfl) rfl rfl (c_r03_Among n _ _ s.lt r105 (Au149a1) (cu149a1) (s.ft 115 rfl) x52 (by omega) r110 hr110) fun v150 a w hK hp s => ?_)
        replace hE := hE.grow hK; replace hZ := Nat.le_trans hZ hK.size; refine ⟨fun g _ h => h.grow hK, ?_⟩; clear hK
        obtain rfl := hp
        refine n_1 12 s (by kernel_rfl) rfl rfl (l_quiet s rfl rfl (yl_b (y_bne s rfl rfl underlying4) hs123) fun a s => ?_); refine ⟨fun g _ h => h, ?_⟩
        refine n_1 13 s (by kernel_rfl) rfl rfl (l_quiet s rfl rfl (y_move s rfl) fun a s => ?_); refine ⟨fun g _ h => h, ?_⟩
        refine n_1 14 s (by kernel_rfl) rfl ⟨_, _, _, rfl, rfl, rfl, rfl⟩ (l_quiet s rfl rfl (yl_b (y_move s rfl) hs122) fun a s => ?_); refine ⟨fun g _ h => h, ?_⟩
        refine n_1 15 s (by kernel_rfl) rfl ⟨_, _, _, rfl, rfl, rfl, rfl⟩ (l_quiet s rfl rfl (y_move s rfl) fun a s => ?_); refine ⟨fun g _ h => h, ?_⟩
        refine n_ql 16 s hE rfl (by kernel_rfl) (by kernel_rfl) (by kernel_rfl) rfl ⟨_, _, _, rfl, rfl, rfl, rfl⟩ rfl (fun w' s => y_move s rfl) fun a s => ?_
        refine n_1 17 s (by kernel_rfl) rfl ⟨_, _, _, rfl, rfl, rfl, rfl⟩ (l_quiet s rfl rfl (y_move s rfl) fun a s => ?_); refine ⟨fun g _ h => h, ?_⟩
        refine n_1 18 s (by kernel_rfl) rfl ⟨_, _, _, rfl, rfl, rfl, rfl⟩ (l_quiet s rfl rfl (yl_b (y_gtrN (i := t_88) (j := t_47) s rfl rfl) hs124e) fun a s => ?_); refine ⟨fun g _ h => h, ?_⟩
        refine n_1 19 s (by kernel_rfl) rfl ⟨_, _, _, rfl, rfl, rfl, rfl⟩ (l_quiet s rfl rfl (y_pick_t s rfl rfl) fun a s => ?_); refine ⟨fun g _ h => h, ?_⟩
        refine n_1 20 s (by kernel_rfl) rfl rfl (l_quiet s rfl rfl (y_pick_f s rfl rfl) fun a s => ?_); refine ⟨fun g _ h => h, ?_⟩
        refine n_1 21 s (by kernel_rfl) rfl rfl (l_quiet s rfl rfl (y_move s rfl) fun a s => ?_); refine ⟨fun g _ h => h, ?_⟩
        refine n_1 22 s (by kernel_rfl) rfl ⟨_, _, _, rfl, rfl, rfl, rfl⟩ (l_quiet s rfl rfl (yl_b (y_move s rfl) hs122) fun a s => ?_); refine ⟨fun g _ h => h, ?_⟩
        refine n_1 23 s (by kernel_rfl) rfl ⟨_, _, _, rfl, rfl, rfl, rfl⟩ (l_quiet s rfl rfl (y_move s rfl) fun a s => ?_); refine ⟨fun g _ h => h, ?_⟩
        refine n_ql 24 s hE rfl (by kernel_rfl) (by kernel_rfl) (by kernel_rfl) rfl ⟨_, _, _, rfl, rfl, rfl, rfl⟩ rfl (fun w' s => y_move s rfl) fun a s => ?_
        refine n_1 25 s (by kernel_rfl) rfl ⟨_, _, _, rfl, rfl, rfl, rfl⟩ (l_quiet s rfl rfl (y_move s rfl) fun a s => ?_); refine ⟨fun g _ h => h, ?_⟩
        refine n_1 26 s (by kernel_rfl) rfl ⟨_, _, _, rfl, rfl, rfl, rfl⟩ (l_quiet s rfl rfl (yl_b (y_neqN (i := t_88) (j := t_47) s rfl rfl) hs133e) fun a s => ?_); refine ⟨fun g _ h => h, ?_⟩
        refine n_1 27 s (by kernel_rfl) rfl ⟨_, _, _, rfl, rfl, rfl, rfl⟩ (l_quiet s rfl rfl (y_pick_t s rfl rfl) fun a s => ?_); refine ⟨fun g _ h => h, ?_⟩
        refine n_1 28 s (by kernel_rfl) rfl ⟨_, _, _, rfl, rfl, rfl, rfl⟩ (l_quiet s rfl rfl (y_move s rfl) fun a s => ?_); refine ⟨fun g _ h => h, ?_⟩
        refine n_ql 29 s hE rfl (by kernel_rfl) (by kernel_rfl) (by kernel_rfl) rfl ⟨_, _, _, rfl, rfl, rfl, rfl⟩ rfl (fun w' s => y_move s rfl) fun a s => ?_
        refine n_ql 30 s hE rfl (by kernel_rfl) (by kernel_rfl) (by kernel_rfl) rfl ⟨_, _, _, rfl, rfl, rfl, rfl⟩ rfl (fun w' s => y_move s rfl) fun a s => ?_
        refine n_ql 31 s hE rfl (by kernel_rfl) (by kernel_rfl) (by kernel_rfl) rfl ⟨_, _, _, rfl, rfl, rfl, rfl⟩ rfl (fun w' s => y_move s rfl) fun a s => ?_
        obtain ⟨p152, hep152, hpp152⟩ := SlR.elemX (s.ft 103 rfl) hx92
        refine n_ql 32 s hE rfl (by kernel_rfl) (by kernel_rfl) (by kernel_rfl) rfl ⟨_, _, _, rfl, rfl, rfl, rfl⟩ rfl (fun w' s => y_elem (sz := 1) (i := t_88) s rfl rfl underlying27 rfl hep152 rfl (lt_of_get hx92)) fun a s => ?_
        refine n_ql 35 s hE rfl (by kernel_rfl) (by kernel_rfl) (by kernel_rfl) rfl ⟨_, _, _, rfl, rfl, rfl, rfl⟩ rfl (fun w' s => y_move s rfl) fun a s => ?_
        refine n_ql 36 s hE rfl (by kernel_rfl) (by kernel_rfl) (by kernel_rfl) rfl ⟨_, _, _, rfl, rfl, rfl, rfl⟩ rfl (fun w' s => y_move s rfl) fun a s => ?_
        obtain ⟨p153, hep153, hpp153⟩ := SlR.elemX (s.ft 103 rfl) hx52
        refine n_ql 37 s hE rfl (by kernel_rfl) (by kernel_rfl) (by kernel_rfl) rfl ⟨_, _, _, rfl, rfl, rfl, rfl⟩ rfl (fun w' s => y_elem (sz := 1) (i := t_47) s rfl rfl underlying27 rfl hep153 rfl (lt_of_get hx52)) fun a s => ?_
        refine n_2 33 38 s (by kernel_rfl) rfl ⟨_, _, _, rfl, rfl, rfl, rfl⟩ rfl ⟨_, _, _, rfl, rfl, rfl, rfl⟩ ?_ ?_
        ·obtain ⟨hlq154, hmq154, csq154, hdq154, hcq154⟩ := (SlR.again (s.ft 103 rfl) hx92 hep152)
         obtain ⟨rfl, lq1541⟩ := hdq154
         refine l_quiet s rfl rfl (y_ldp1 s rfl hlq154 hmq154 (hcq154 0 _ rfl) underlying9 rfl) fun a s => ?_; refine ⟨fun g _ h => h, ?_⟩
         refine n_2 34 38 s (by kernel_rfl) rfl ⟨_, _, _, rfl, rfl, rfl, rfl⟩ rfl ⟨_, _, _, rfl, rfl, rfl, rfl⟩ ?_ ?_
         ·refine l_call (cap := []) s rfl func20 rfl (by kernel_rfl) rfl rfl (c_poset_Above n _ _ s.lt t_ (Ap01) (cp01) (s.ft 101 rfl) x92 (by omega) r136 hr136) fun v155 a w hK hp s => ?_
          replace hE := hE.grow hK; replace hZ := Nat.le_trans hZ hK.size; refine ⟨fun g _ h => h.grow hK, ?_⟩; clear hK
          obtain ⟨Au156a1, cu156a1, rfl, hu156a1⟩ := hp
          replace s := s.ns 116 hu156a1
          obtain ⟨hlq157, hmq157, csq157, hdq157, hcq157⟩ := (SlR.again (s.ft 103 rfl) hx52 hep153)
          obtain ⟨rfl, lq1571⟩ := hdq157
          refine n_1 38 s (by kernel_rfl) rfl ⟨_, _, _, rfl, rfl, rfl, rfl⟩ (l_quiet s rfl rfl (y_ldp1 s rfl hlq157 hmq157 (hcq157 0 _ rfl) underlying9 rfl) fun a s => ?_); refine ⟨fun g _ h => h, ?_⟩
          refine n_1 39 s (by kernel_rfl) rfl ⟨_, _, _, rfl, rfl, rfl, rfl⟩ (l_call (cap := []) s rfl func28 rfl (by kernel_rfl) rfl rfl (c_r03_Among n _ _ s.lt r136 (Au156a1) (cu156a1) (s.ft 116 rfl) x52 (by omega) r141 hr141) fun v158 a w hK hp s => ?_)
          replace hE := hE.grow hK; replace hZ := Nat.le_trans hZ hK.size; refine ⟨fun g _ h => h.grow hK, ?_⟩; clear hK
          obtain rfl := hp
          refine n_1 40 s (by kernel_rfl) rfl ⟨_, _, _, rfl, rfl, rfl, rfl⟩ (l_quiet s rfl rfl (y_pick_t s rfl rfl) fun a s => ?_); refine ⟨fun g _ h => h, ?_⟩
          refine n_1 41 s (by kernel_rfl) rfl rfl (l_quiet s rfl rfl (y_pick_f s rfl rfl) fun a s => ?_); refine ⟨fun g _ h => h, ?_⟩
          refine n_end (by kernel_rfl) ?_; clear hR hZ hE
          apply pN
          exact ⟨(r141), hg, (s.sb rfl rfl rfl)⟩
         ·obtain ⟨hlq160, hmq160, csq160, hdq160, hcq160⟩ := (SlR.again (s.ft 103 rfl) hx52 hep153)
          obtain ⟨rfl, lq1601⟩ := hdq160
          refine l_quiet s rfl rfl (y_ldp1 s rfl hlq160 hmq160 (hcq160 0 _ rfl) underlying9 rfl) fun a s => ?_; refine ⟨fun g _ h => h, ?_⟩
          refine n_1 34 s (by kernel_rfl) rfl ⟨_, _, _, rfl, rfl, rfl, rfl⟩ (l_call (cap := []) s rfl func20 rfl (by kernel_rfl) rfl rfl (c_poset_Above n _ _ s.lt t_ (Ap01) (cp01) (s.ft 101 rfl) x92 (by omega) r136 hr136) fun v161 a w hK hp s => ?_)
          replace hE := hE.grow hK; replace hZ := Nat.le_trans hZ hK.size; refine ⟨fun g _ h => h.grow hK, ?_⟩; clear hK
          obtain ⟨Au162a1, cu162a1, rfl, hu162a1⟩ := hp
          replace s := s.ns 117 hu162a1
          refine n_1 39 s (by kernel_rfl) rfl ⟨_, _, _, rfl, rfl, rfl, rfl⟩ (l_call (cap := []) s rfl func28 rfl (by kernel_rfl) rfl rfl (c_r03_Among n _ _ s.lt r136 (Au162a1) (cu162a1) (s.ft 117 rfl) x52 (by omega) r141 hr141) fun v163 a w hK hp s => ?_)
          replace hE := hE.grow hK; replace hZ := Nat.le_trans hZ hK.size; refine ⟨fun g _ h => h.grow hK, ?_⟩; clear hK
          obtain rfl := hp
          refine n_1 40 s (by kernel_rfl) rfl ⟨_, _, _, rfl, rfl, rfl, rfl⟩ (l_quiet s rfl rfl (y_pick_t s rfl rfl) fun a s => ?_); refine ⟨fun g _ h => h, ?_⟩
          refine n_1 41 s (by kernel_rfl) rfl rfl (l_quiet s rfl rfl (y_pick_f s rfl rfl) fun a s => ?_); refine ⟨fun g _ h => h, ?_⟩
          refine n_end (by kernel_rfl) ?_; clear hR hZ hE
          apply pN
          exact ⟨(r141), hg, (s.sb rfl rfl rfl)⟩
        ·obtain ⟨hlq165, hmq165, csq165, hdq165, hcq165⟩ := (SlR.again (s.ft 103 rfl) hx52 hep153)
         obtain ⟨rfl, lq1651⟩ := hdq165
         refine l_quiet s rfl rfl (y_ldp1 s rfl hlq165 hmq165 (hcq165 0 _ rfl) underlying9 rfl) fun a s => ?_; refine ⟨fun g _ h => h, ?_⟩
         obtain ⟨hlq166, hmq166, csq166, hdq166, hcq166⟩ := (SlR.again (s.ft 103 rfl) hx92 hep152)
         obtain ⟨rfl, lq1661⟩ := hdq166
         refine n_1 33 s (by kernel_rfl) rfl ⟨_, _, _, rfl, rfl, rfl, rfl⟩ (l_quiet s rfl rfl (y_ldp1 s rfl hlq166 hmq166 (hcq166 0 _ rfl) underlying9 rfl) fun a s => ?_); refine ⟨fun g _ h => h, ?_⟩
         refine n_1 34 s (by kernel_rfl) rfl ⟨_, _, _, rfl, rfl, rfl, rfl⟩ (l_call (cap := []) s rfl func20 rfl (by kernel_rfl) rfl rfl (c_poset_Above n _ _ s.lt t_ (Ap01) (cp01) (s.ft 101 rfl) x92 (by omega) r136 hr136) fun v167 a w hK hp s => ?_)
         replace hE := hE.grow hK; replace hZ := Nat.le_trans hZ hK.size; refine ⟨fun g _ h => h.grow hK, ?_⟩; clear hK
         obtain ⟨Au168a1, cu168a1, rfl, hu168a1⟩ := hp
         replace s := s.ns 118 hu168a1
         refine n_1 39 s (by kernel_rfl) rfl ⟨_, _, _, rfl, rfl, rfl, rfl⟩ (l_call (cap := []) s rfl func28 rfl (by kernel_rfl) rfl rfl (c_r03_Among n _ _ s.lt r136 (Au168a1) (cu168a1) (s.ft 118 rfl) x52 (by omega) r141 hr141) fun v169 a w hK hp s => ?_)
         replace hE := hE.grow hK; replace hZ := Nat.le_trans hZ hK.size; refine ⟨fun g _ h => h.grow hK, ?_⟩; clear hK
         obtain rfl := hp
         refine n_1 40 s (by kernel_rfl) rfl ⟨_, _, _, rfl, rfl, rfl, rfl⟩ (l_quiet s rfl rfl (y_pick_t s rfl rfl) fun a s => ?_); refine ⟨fun g _ h => h, ?_⟩
         refine n_1 41 s (by kernel_rfl) rfl rfl (l_quiet s rfl rfl (y_pick_f s rfl rfl) fun a s => ?_); refine ⟨fun g _ h => h, ?_⟩
         refine n_end (by kernel_rfl) ?_; clear hR hZ hE
         apply pN
         exact ⟨(r141), hg, (s.sb rfl rfl rfl)⟩
       have hs133e := decide_eq_false hs133
       replace hg := br_f hg hs133
       refine d_steps s [] rfl ?_; clear s; intro wr hZ s; have hR := s.wd; have hE := Ext.init hR 0
       refine n_q 0 0 s hR rfl (by kernel_rfl) (by kernel_rfl) (by kernel_rfl) rfl rfl rfl (yl_b (y_move s rfl) hs122) fun a s => ?_
       refine n_q 1 0 s hR rfl (by kernel_rfl) (by kernel_rfl) (by kernel_rfl) rfl rfl rfl (y_move s rfl) fun a s => ?_
       refine n_q 2 0 s hR rfl (by kernel_rfl) (by kernel_rfl) (by kernel_rfl) rfl rfl rfl (y_move s rfl) fun a s => ?_
       refine n_q 3 0 s hR rfl (by kernel_rfl) (by kernel_rfl) (by kernel_rfl) rfl rfl rfl (y_move s rfl) fun a s => ?_
       obtain ⟨p171, hep171, hpp171⟩ := SlR.elemX (s.ft 103 rfl) hx92
       refine n_q 4 0 s hR rfl (by kernel_rfl) (by kernel_rfl) (by kernel_rfl) rfl rfl rfl (y_elem (sz := 1) (i := t_88) s rfl rfl underlying27 rfl hep171 rfl (lt_of_get hx92)) fun a s => ?_
       obtain ⟨hlq172, hmq172, csq172, hdq172, hcq172⟩ := (SlR.again (s.ft 103 rfl) hx92 hep171)
       obtain ⟨rfl, lq1721⟩ := hdq172
       refine n_q 5 0 s hR rfl (by kernel_rfl) (by kernel_rfl) (by kernel_rfl) rfl rfl rfl (y_ldp1 s rfl hlq172 hmq172 (hcq172 0 _ rfl) underlying9 rfl) fun a s => ?_
       refine n_q 7 0 s hR rfl (by kernel_rfl) (by kernel_rfl) (by kernel_rfl) rfl rfl rfl (y_move s rfl) fun a s => ?_
       refine n_q 8 0 s hR rfl (by kernel_rfl) (by kernel_rfl) (by kernel_rfl) rfl rfl rfl (y_move s rfl) fun a s => ?_
       obtain ⟨p173, hep173, hpp173⟩ := SlR.elemX (s.ft 103 rfl) hx52
       refine n_q 9 0 s hR rfl (by kernel_rfl) (by kernel_rfl) (by kernel_rfl) rfl rfl rfl (y_elem (sz := 1) (i := t_47) s rfl rfl underlying27 rfl hep173 rfl (lt_of_get hx52)) fun a s => ?_
       obtain ⟨hlq174, hmq174, csq174, hdq174, hcq174⟩ := (SlR.again (s.ft 103 rfl) hx52 hep173)
       obtain ⟨rfl, lq1741⟩ := hdq174
       refine n_q 10 0 s hR rfl (by kernel_rfl) (by kernel_rfl) (by kernel_rfl) rfl rfl rfl (y_ldp1 s rfl hlq174 hmq174 (hcq174 0 _ rfl) underlying9 rfl) fun a s => ?_
       refine n_1 6 s (by kernel_rfl) rfl rfl (l_call (cap := []) s rfl func22 rfl (by kernel_rfl) rfl rfl (c_poset_Below n _ _ s.lt t_ (Ap01) (cp01) (s.ft 101 rfl) x92 (by omega) r105 hr105) fun v175 a w hK hp s => ?_)
       replace hE := hE.grow hK; replace hZ := Nat.le_trans hZ hK.size; refine ⟨fun g _ h => h.grow hK, ?_⟩; clear hK
       obtain ⟨Au176a1, cu176a1, rfl, hu176a1⟩ := hp
       replace s := s.ns 119 hu176a1
       refine n_1 11 s (by kernel_rfl) rfl rfl (l_call (cap := []) s rfl func28 rfl (by kernel_rfl) rfl rfl (c_r03_Among n _ _ s.lt r105 (Au176a1) (cu176a1) (s.ft 119 rfl) x52 (by omega) r110 hr110) fun v177 a w hK hp s => ?_)
       replace hE := hE.grow hK; replace hZ := Nat.le_trans hZ hK.size; refine ⟨fun g _ h => h.grow hK, ?_⟩; clear hK
       obtain rfl := hp
       refine n_1 12 s (by kernel_rfl) rfl rfl (l_quiet s rfl rfl (yl_b (y_bne s rfl rfl underlying4) hs123) fun a s => ?_); refine ⟨fun g _ h => h, ?_⟩
       refine n_1 13 s (by kernel_rfl) rfl rfl (l_quiet s rfl rfl (y_move s rfl) fun a s => ?_); refine ⟨fun g _ h => h, ?_⟩
       refine n_1 14 s (by kernel_rfl) rfl ⟨_, _, _, rfl, rfl, rfl, rfl⟩ (l_quiet s rfl rfl (yl_b (y_move s rfl) hs122) fun a s => ?_); refine ⟨fun g _ h => h, ?_⟩
       refine n_1 15 s (by kernel_rfl) rfl ⟨_, _, _, rfl, rfl, rfl, rfl⟩ (l_quiet s rfl rfl (y_move s rfl) fun a s => ?_); refine ⟨fun g _ h => h, ?_⟩
       refine n_ql 16 s hE rfl (by kernel_rfl) (by kernel_rfl) (by kernel_rfl) rfl ⟨_, _, _, rfl, rfl, rfl, rfl⟩ rfl (fun w' s => y_move s rfl) fun a s => ?_
       refine n_1 17 s (by kernel_rfl) rfl ⟨_, _, _, rfl, rfl, rfl, rfl⟩ (l_quiet s rfl rfl (y_move s rfl) fun a s => ?_); refine ⟨fun g _ h => h, ?_⟩
       refine n_1 18 s (by kernel_rfl) rfl ⟨_, _, _, rfl, rfl, rfl, rfl⟩ (l_quiet s rfl rfl (yl_b (y_gtrN (i := t_88) (j := t_47) s rfl rfl) hs124e) fun a s => ?_); refine ⟨fun g _ h => h, ?_⟩
       refine n_1 19 s (by kernel_rfl) rfl ⟨_, _, _, rfl, rfl, rfl, rfl⟩ (l_quiet s rfl rfl (y_pick_t s rfl rfl) fun a s => ?_); refine ⟨fun g _ h => h, ?_⟩
       refine n_1 20 s (by kernel_rfl) rfl rfl (l_quiet s rfl rfl (y_pick_f s rfl rfl) fun a s => ?_); refine ⟨fun g _ h => h, ?_⟩
       refine n_1 21 s (by kernel_rfl) rfl rfl (l_quiet s rfl rfl (y_move s rfl) fun a s => ?_); refine ⟨fun g _ h => h, ?_⟩
       refine n_1 22 s (by kernel_rfl) rfl ⟨_, _, _, rfl, rfl, rfl, rfl⟩ (l_quiet s rfl rfl (yl_b (y_move s rfl) hs122) fun a s => ?_); refine ⟨fun g _ h => h, ?_⟩
       refine n_1 23 s (by kernel_rfl) rfl ⟨_, _, _, rfl, rfl, rfl, rfl⟩ (l_quiet s rfl rfl (y_move s rfl) fun a s => ?_); refine ⟨fun g _ h => h, ?_⟩
       refine n_ql 24 s hE rfl (by kernel_rfl) (by kernel_rfl) (by kernel_rfl) rfl ⟨_, _, _, rfl, rfl, rfl, rfl⟩ rfl (fun w' s => y_move s rfl) fun a s => ?_
       refine n_1 25 s (by kernel_rfl) rfl ⟨_, _, _, rfl, rfl, rfl, rfl⟩ (l_quiet s rfl rfl (y_move s rfl) fun a s => ?_); refine ⟨fun g _ h => h, ?_⟩
       refine n_1 26 s (by kernel_rfl) rfl ⟨_, _, _, rfl, rfl, rfl, rfl⟩ (l_quiet s rfl rfl (yl_b (y_neqN (i := t_88) (j := t_47) s rfl rfl) hs133e) fun a s => ?_); refine ⟨fun g _ h => h, ?_⟩
       refine n_1 27 s (by kernel_rfl) rfl ⟨_, _, _, rfl, rfl, rfl, rfl⟩ (l_quiet s rfl rfl (y_pick_t s rfl rfl) fun a s => ?_); refine ⟨fun g _ h => h, ?_⟩
       refine n_1 28 s (by kernel_rfl) rfl ⟨_, _, _, rfl, rfl, rfl, rfl⟩ (l_quiet s rfl rfl (y_move s rfl) fun a s => ?_); refine ⟨fun g _ h => h, ?_⟩
       refine n_qlpass 29 s hE rfl (by kernel_rfl) (by kernel_rfl) (by kernel_rfl) rfl ⟨_, _, _, rfl, rfl, rfl, rfl⟩ rfl fun a s => ?_
       refine n_qlpass 30 s hE rfl (by kernel_rfl) (by kernel_rfl) (by kernel_rfl) rfl ⟨_, _, _, rfl, rfl, rfl, rfl⟩ rfl fun a s => ?_
       refine n_qlpass 31 s hE rfl (by kernel_rfl) (by kernel_rfl) (by kernel_rfl) rfl ⟨_, _, _, rfl, rfl, rfl, rfl⟩ rfl fun a s => ?_
       refine n_qlpass 32 s hE rfl (by kernel_rfl) (by kernel_rfl) (by kernel_rfl) rfl ⟨_, _, _, rfl, rfl, rfl, rfl⟩ rfl fun a s => ?_
       refine n_qlpass 33 s hE rfl (by kernel_rfl) (by kernel_rfl) (by kernel_rfl) rfl ⟨_, _, _, rfl, rfl, rfl, rfl⟩ rfl fun a s => ?_
       refine n_qlpass 34 s hE rfl (by kernel_rfl) (by kernel_rfl) (by kernel_rfl) rfl ⟨_, _, _, rfl, rfl, rfl, rfl⟩ rfl fun a s => ?_
       refine n_qlpass 35 s hE rfl (by kernel_rfl) (by kernel_rfl) (by kernel_rfl) rfl ⟨_, _, _, rfl, rfl, rfl, rfl⟩ rfl fun a s => ?_
       refine n_pass 36 s (by kernel_rfl) rfl ⟨_, _, _, rfl, rfl, rfl, rfl⟩ rfl rfl fun a s => ?_
       refine n_pass 37 s (by kernel_rfl) rfl ⟨_, _, _, rfl, rfl, rfl, rfl⟩ rfl rfl fun a s => ?_
       refine n_pass 38 s (by kernel_rfl) rfl ⟨_, _, _, rfl, rfl, rfl, rfl⟩ rfl rfl fun a s => ?_
       refine n_pass 39 s (by kernel_rfl) rfl ⟨_, _, _, rfl, rfl, rfl, rfl⟩ rfl rfl fun a s => ?_
       refine n_1 40 s (by kernel_rfl) rfl ⟨_, _, _, rfl, rfl, rfl, rfl⟩ (l_quiet s rfl rfl (y_pick_f s rfl rfl) fun a s => ?_); refine ⟨fun g _ h => h, ?_⟩
       refine n_1 41 s (by kernel_rfl) rfl rfl (l_quiet s rfl rfl (y_pick_f s rfl rfl) fun a s => ?_); refine ⟨fun g _ h => h, ?_⟩
       refine n_end (by kernel_rfl) ?_; clear hR hZ hE
       apply pN
       exact ⟨(false), hg, (s.sb rfl rfl rfl)⟩
      replace hg := br_n hg hs122
      have hs179 : (!(false == r110)) = false := by have q := hs113; rw [hs122] at q; exact q
      refine d_steps s [] rfl ?_; clear s; intro wr hZ s; have hR := s.wd; have hE := Ext.init hR 0
      refine n_q 0 0 s hR rfl (by kernel_rfl) (by kernel_rfl) (by kernel_rfl) rfl rfl rfl (yl_b (y_move s rfl) hs122) fun a s => ?_
      refine n_q 1 0 s hR rfl (by kernel_rfl) (by kernel_rfl) (by kernel_rfl) rfl rfl rfl (y_move s rfl) fun a s => ?_
      refine n_q 2 0 s hR rfl (by kernel_rfl) (by kernel_rfl) (by kernel_rfl) rfl rfl rfl (y_move s rfl) fun a s => ?_
      refine n_q 3 0 s hR rfl (by kernel_rfl) (by kernel_rfl) (by kernel_rfl) rfl rfl rfl (y_move s rfl) fun a s => ?_
      obtain ⟨p180, hep180, hpp180⟩ := SlR.elemX (s.ft 103 rfl) hx92
      refine n_q 4 0 s hR rfl (by kernel_rfl) (by kernel_rfl) (by kernel_rfl) rfl rfl rfl (y_elem (sz := 1) (i := t_88) s rfl rfl underlying27 rfl hep180 rfl (lt_of_get hx92)) fun a s => ?_
      obtain ⟨hlq181, hmq181, csq181, hdq181, hcq181⟩ := (SlR.again (s.ft 103 rfl) hx92 hep180)
      obtain ⟨rfl, lq1811⟩ := hdq181
      refine n_q 5 0 s hR rfl (by kernel_rfl) (by kernel_rfl) (by kernel_rfl) rfl rfl rfl (y_ldp1 s rfl hlq181 hmq181 (hcq181 0 _ rfl) underlying9 rfl) fun a s => ?_
      refine n_q 7 0 s hR rfl (by kernel_rfl) (by kernel_rfl) (by kernel_rfl) rfl rfl rfl (y_move s rfl) fun a s => ?_
      refine n_q 8 0 s hR rfl (by kernel_rfl) (by kernel_rfl) (by kernel_rfl) rfl rfl rfl (y_move s rfl) fun a s => ?_
      obtain ⟨p182, hep182, hpp182⟩ := SlR.elemX (s.ft 103 rfl) hx52
      refine n_q 9 0 s hR rfl (by kernel_rfl) (by kernel_rfl) (by kernel_rfl) rfl rfl rfl (y_elem (sz := 1) (i := t_47) s rfl rfl underlying27 rfl hep182 rfl (lt_of_get hx52)) fun a s => ?_
      obtain ⟨hlq183, hmq183, csq183, hdq183, hcq183⟩ := (SlR.again (s.ft 103 rfl) hx52 hep182)
      obtain ⟨rfl, lq1831⟩ := hdq183
      refine n_q 10 0 s hR rfl (by kernel_rfl) (by kernel_rfl) (by kernel_rfl) rfl rfl rfl (y_ldp1 s rfl hlq183 hmq183 (hcq183 0 _ rfl) underlying9 rfl) fun a s => ?_
      refine n_1 6 s (by kernel_rfl) rfl rfl (l_call (cap := []) s rfl func22 rfl (by kernel_rfl) rfl rfl (c_poset_Below n _ _ s.lt t_ (Ap01) (cp01) (s.ft 101 rfl) x92 (by omega) r105 hr105) fun v184 a w hK hp s => ?_)
      replace hE := hE.grow hK; replace hZ := Nat.le_trans hZ hK.size; refine ⟨fun g _ h => h.grow hK, ?_⟩; clear hK
      obtain ⟨Au185a1, cu185a1, rfl, hu185a1⟩ := hp
      replace s := s.ns 120 hu185a1
      refine n_1 11 s (by kernel_rfl) rfl rfl (l_call (cap := []) s rfl func28 rfl (by kernel_rfl) rfl rfl (c_r03_Among n _ _ s.lt r105 (Au185a1) (cu185a1) (s.ft 120 rfl) x52 (by omega) r110 hr110) fun v186 a w hK hp s => ?_)
      replace hE := hE.grow hK; replace hZ := Nat.le_trans hZ hK.size; refine ⟨fun g _ h => h.grow hK, ?_⟩; clear hK
      obtain rfl := hp
      refine n_1 12 s (by kernel_rfl) rfl rfl (l_quiet s rfl rfl (yl_b (y_bne s rfl rfl underlying4) hs179) fun a s => ?_); refine ⟨fun g _ h => h, ?_⟩
      refine n_1 13 s (by kernel_rfl) rfl rfl (l_quiet s rfl rfl (y_move s rfl) fun a s => ?_); refine ⟨fun g _ h => h, ?_⟩
      refine n_1 14 s (by kernel_rfl) rfl ⟨_, _, _, rfl, rfl, rfl, rfl⟩ (l_quiet s rfl rfl (yl_b (y_move s rfl) hs122) fun a s => ?_); refine ⟨fun g _ h => h, ?_⟩
      refine n_1 15 s (by kernel_rfl) rfl ⟨_, _, _, rfl, rfl, rfl, rfl⟩ (l_quiet s rfl rfl (y_move s rfl) fun a s => ?_); refine ⟨fun g _ h => h, ?_⟩
      refine n_qlpass 16 s hE rfl (by kernel_rfl) (by kernel_rfl) (by kernel_rfl) rfl ⟨_, _, _, rfl, rfl, rfl, rfl⟩ rfl fun a s => ?_
      refine n_pass 17 s (by kernel_rfl) rfl ⟨_, _, _, rfl, rfl, rfl, rfl⟩ rfl rfl fun a s => ?_
      refine n_pass 18 s (by kernel_rfl) rfl ⟨_, _, _, rfl, rfl, rfl, rfl⟩ rfl rfl fun a s => ?_
      refine n_1 19 s (by kernel_rfl) rfl ⟨_, _, _, rfl, rfl, rfl, rfl⟩ (l_quiet s rfl rfl (y_pick_f s rfl rfl) fun a s => ?_); refine ⟨fun g _ h => h, ?_⟩
      refine n_1 20 s (by kernel_rfl) rfl rfl (l_quiet s rfl rfl (y_pick_f s rfl rfl) fun a s => ?_); refine ⟨fun g _ h => h, ?_⟩
      refine n_1 21 s (by kernel_rfl) rfl rfl (l_quiet s rfl rfl (y_move s rfl) fun a s => ?_); refine ⟨fun g _ h => h, ?_⟩
      refine n_1 22 s (by kernel_rfl) rfl ⟨_, _, _, rfl, rfl, rfl, rfl⟩ (l_quiet s rfl rfl (yl_b (y_move s rfl) hs122) fun a s => ?_); refine ⟨fun g _ h => h, ?_⟩
      refine n_1 23 s (by kernel_rfl) rfl ⟨_, _, _, rfl, rfl, rfl, rfl⟩ (l_quiet s rfl rfl (y_move s rfl) fun a s => ?_); refine ⟨fun g _ h => h, ?_⟩
      refine n_qlpass 24 s hE rfl (by kernel_rfl) (by kernel_rfl) (by kernel_rfl) rfl ⟨_, _, _, rfl, rfl, rfl, rfl⟩ rfl fun a s => ?_
      refine n_pass 25 s (by kernel_rfl) rfl ⟨_, _, _, rfl, rfl, rfl, rfl⟩ rfl rfl fun a s => ?_
      refine n_pass 26 s (by kernel_rfl) rfl ⟨_, _, _, rfl, rfl, rfl, rfl⟩ rfl rfl fun a s => ?_
      refine n_1 27 s (by kernel_rfl) rfl ⟨_, _, _, rfl, rfl, rfl, rfl⟩ (l_quiet s rfl rfl (y_pick_f s rfl rfl) fun a s => ?_); refine ⟨fun g _ h => h, ?_⟩
      refine n_1 28 s (by kernel_rfl) rfl ⟨_, _, _, rfl, rfl, rfl, rfl⟩ (l_quiet s rfl rfl (y_move s rfl) fun a s => ?_); refine ⟨fun g _ h => h, ?_⟩
      refine n_qlpass 29 s hE rfl (by kernel_rfl) (by kernel_rfl) (by kernel_rfl) rfl ⟨_, _, _, rfl, rfl, rfl, rfl⟩ rfl fun a s => ?_
      refine n_qlpass 30 s hE rfl (by kernel_rfl) (by kernel_rfl) (by kernel_rfl) rfl ⟨_, _, _, rfl, rfl, rfl, rfl⟩ rfl fun a s => ?_
      refine n_qlpass 31 s hE rfl (by kernel_rfl) (by kernel_rfl) (by kernel_rfl) rfl ⟨_, _, _, rfl, rfl, rfl, rfl⟩ rfl fun a s => ?_
      refine n_qlpass 32 s hE rfl (by kernel_rfl) (by kernel_rfl) (by kernel_rfl) rfl ⟨_, _, _, rfl, rfl, rfl, rfl⟩ rfl fun a s => ?_
      refine n_qlpass 33 s hE rfl (by kernel_rfl) (by kernel_rfl) (by kernel_rfl) rfl ⟨_, _, _, rfl, rfl, rfl, rfl⟩ rfl fun a s => ?_
      refine n_qlpass 34 s hE rfl (by kernel_rfl) (by kernel_rfl) (by kernel_rfl) rfl ⟨_, _, _, rfl, rfl, rfl, rfl⟩ rfl fun a s => ?_
      refine n_qlpass 35 s hE rfl (by kernel_rfl) (by kernel_rfl) (by kernel_rfl) rfl ⟨_, _, _, rfl, rfl, rfl, rfl⟩ rfl fun a s => ?_
      refine n_pass 36 s (by kernel_rfl) rfl ⟨_, _, _, rfl, rfl, rfl, rfl⟩ rfl rfl fun a s => ?_
      refine n_pass 37 s (by kernel_rfl) rfl ⟨_, _, _, rfl, rfl, rfl, rfl⟩ rfl rfl fun a s => ?_
      refine n_pass 38 s (by kernel_rfl) rfl ⟨_, _, _, rfl, rfl, rfl, rfl⟩ rfl rfl fun a s => ?_
      refine n_pass 39 s (by kernel_rfl) rfl ⟨_, _, _, rfl, rfl, rfl, rfl⟩ rfl rfl fun a s => ?_
      refine n_1 40 s (by kernel_rfl) rfl ⟨_, _, _, rfl, rfl, rfl, rfl⟩ (l_quiet s rfl rfl (y_pick_f s rfl rfl) fun a s => ?_); refine ⟨fun g _ h => h, ?_⟩
      refine n_1 41 s (by kernel_rfl) rfl rfl (l_quiet s rfl rfl (y_pick_f s rfl rfl) fun a s => ?_); refine ⟨fun g _ h => h, ?_⟩
      refine n_end (by kernel_rfl) ?_; clear hR hZ hE
      apply pN
      exact ⟨(false), hg, (s.sb rfl rfl rfl)⟩
     clear s a; rintro a w ⟨t_102, hg, s⟩
     subst hk101
     refine c_cond s rfl (fun hc188 => ?_) (fun hc188 => ?_)
     ·replace hg := br_t hg hc188
      apply wR
      refine asg s rfl rfl fun a s => ?_
      apply wN
      apply wp_ret
      refine p_inR ?_
      refine p_thenR ?_
      refine p_thenR ?_
      refine p_inR ?_
      refine p_inR ?_
      refine p_thenR ?_
      refine p_thenR ?_
      refine p_inR ?_
      refine p_thenR ?_
      obtain rfl := Option.some.inj hg
      refine fin1 (fn := Try.f7) s rfl (r_tmp s rfl) ?_
      exact rfl
     replace hg := br_n hg hc188
     apply wp_skip
     refine p_inN ?_
     apply pN
     apply wL
     refine qq s rfl (y_addN (i := t_88) (j := 1) s rfl rfl (in64.2 (by omega))) fun a s => ?_
     refine mv s rfl rfl fun a s => ?_
     apply wN
     exact ⟨m2, Nat.lt_succ_self _, ⟨(t_88 + 1), hg, (s.sb rfl rfl rfl)⟩⟩
    replace hg := br_f hg hc89
    apply wp_exit
    refine p_then ?_
    refine p_then ?_
    refine p_in ?_
    refine p_inN ?_
    apply pN
    exact ⟨hg, (s.sb rfl rfl rfl)⟩
   clear s a; rintro a w ⟨hg, s⟩
   subst hk50
   apply wL
   refine qq s rfl (y_addN (i := t_47) (j := 1) s rfl rfl (in64.2 (by omega))) fun a s => ?_
   refine mv s rfl rfl fun a s => ?_
   apply wN
   exact ⟨m1, Nat.lt_succ_self _, ⟨(t_47 + 1), hg, (s.sb rfl rfl rfl)⟩⟩
  replace hg := br_f hg hc48
  apply wp_exit
  refine p_then ?_
  refine p_then ?_
  refine p_in ?_
  apply pN
  exact ⟨hg, (s.sb rfl rfl rfl)⟩
 clear s a; rintro a w ⟨hg, s⟩
 subst hk46
 apply wQ
 obtain ⟨r189, hr189, hg⟩ := bind_some hg
 apply wL
 refine l_seq rfl (l_call (cap := []) s rfl func12 rfl (by kernel_rfl) rfl rfl (c_law03_exampleHolds n _ _ s.lt  r189 hr189) fun v192 a w hK hp s => ?_)
 obtain rfl := hp
 refine asg s rfl rfl fun a s => ?_
 apply wN
 apply wp_ret
 obtain rfl := Option.some.inj hg
 refine fin1 (fn := Try.f7) s rfl (r_tmp s rfl) ?_
 exact rfl
end Go.Proofs.Ytoeolfnjblibpaa
