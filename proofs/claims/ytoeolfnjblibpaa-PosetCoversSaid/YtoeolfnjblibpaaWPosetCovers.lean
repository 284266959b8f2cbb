/- Chapter 03: the walk of PosetCovers -/
import Derived.Test.YtoeolfnjblibpaaW8
namespace Go.Proofs.Ytoeolfnjblibpaa
open Go.Gl Go.RowKit Try
set_option linter.unusedVariables false
set_option linter.unusedSimpArgs false
set_option maxRecDepth 4000

set_option maxHeartbeats 400000 in
theorem c_law03_PosetCovers (n : Nat) (M : Bs) (w0 : World) (hM : ∀ b, M b → b < w0.heap.size) (t_ : (List TypeDecl)) (Ap01 : Option Addr) (cp01 : Nat) (hp01 : SlR RTypeDecl M w0 Ap01 (t_).length cp01 (t_)) (t_' : (List (List UInt8))) (Ap11 : Option Addr) (cp11 : Nat) (hp11 : SlR Rep.str M w0 Ap11 (t_').length cp11 (t_')) (r : Bool) (hg : law03_PosetCovers n t_ t_' = some r) :
    Calls Try.prog 8 [.slice (Ap01) ((t_).length) (cp01), .slice (Ap11) ((t_').length) (cp11)].toArray w0 (Ret noB w0 fun v w => v = .bool (r)) := by
 unfold law03_PosetCovers at hg
 refine enter M noB func8 rfl rfl hM ?_
 intro a s
 replace s := s.es 101 hp01
 replace s := s.es 102 hp11
 apply wR
 refine asg s rfl rfl fun a s => ?_
 apply wN
 apply wQ
 apply wQ
 obtain ⟨k1, hg, hk1⟩ := jn_some hg
 refine c_post (fun a w => ∃ (t_2 : Bool), k1 t_2 = some r ∧ St (⟨Try.f8.ntmps, M, noB, w0⟩ : Ctx) [(0, sl Ap01 (t_) cp01), (1, sl Ap11 (t_') cp11), (29, .bool (t_2))] [] [(101, slF RTypeDecl (Ap01) ((t_).length) (cp01) (t_)), (102, slF Rep.str (Ap11) ((t_').length) (cp11) (t_'))] a w) ?_ ?_
 ·obtain ⟨r3, hr3, hg⟩ := bind_some hg
  rcases Bool.eq_false_or_eq_true (!(r3)) with hs6 | hs6
  ·replace hg := br_t hg hs6
   apply wL
   refine mv s rfl rfl fun a s => ?_
   refine l_seq rfl (l_call (cap := []) s rfl func18 rfl (by kernel_rfl) rfl rfl (c_law03_valid n _ _ s.lt t_ (Ap01) (cp01) (s.ft 101 rfl) r3 hr3) fun v7 a w hK hp s => ?_)
   obtain rfl := hp
   refine qq s rfl (yl_b (y_not s rfl) hs6) fun a s => ?_
   refine mv s rfl rfl fun a s => ?_
   refine gn s rfl fun a s => ?_
   refine gn s rfl fun a s => ?_
   refine gn s rfl fun a s => ?_
   refine qq s rfl (y_pick_t s rfl rfl) fun a s => ?_
   apply wN
   exact ⟨(true), hg, (s.sb rfl rfl rfl)⟩
  replace hg := br_n hg hs6
  apply wL
  refine mv s rfl rfl fun a s => ?_
  refine l_seq rfl (l_call (cap := []) s rfl func18 rfl (by kernel_rfl) rfl rfl (c_law03_valid n _ _ s.lt t_ (Ap01) (cp01) (s.ft 101 rfl) r3 hr3) fun v9 a w hK hp s => ?_)
  obtain rfl := hp
  refine qq s rfl (yl_b (y_not s rfl) hs6) fun a s => ?_
  refine mv s rfl rfl fun a s => ?_
  refine gm s rfl rfl fun a s => ?_
  refine gy s rfl (y_lenSlice s rfl underlying27) fun a s => ?_
  refine gy s rfl (y_gtrN (i := ((t_').length)) (j := 30) s rfl rfl) fun a s => ?_
  refine qq s rfl (y_pick_f s rfl rfl) fun a s => ?_
  apply wN
  exact ⟨(decide ((30 : Nat) < ((t_').length))), hg, (s.sb rfl rfl rfl)⟩
 clear s a; rintro a w ⟨t_2, hg, s⟩
 subst hk1
 refine c_cond s rfl (fun hc11 => ?_) (fun hc11 => ?_)
 ·replace hg := br_t hg hc11
  apply wQ
  obtain ⟨r12, hr12, hg⟩ := bind_some hg
  apply wL
  refine l_seq rfl (l_call (cap := []) s rfl func12 rfl (by kernel_rfl) rfl rfl (c_law03_exampleHolds n _ _ s.lt  r12 hr12) fun v15 a w hK hp s => ?_)
  obtain rfl := hp
  refine asg s rfl rfl fun a s => ?_
  apply wN
  apply wp_ret
  refine p_thenR ?_
  obtain rfl := Option.some.inj hg
  refine fin1 (fn := Try.f8) s rfl (r_tmp s rfl) ?_
  exact rfl
 replace hg := br_n hg hc11
 apply wp_skip
 apply pN
 apply wQ
 obtain ⟨r17, hr17, hg⟩ := bind_some hg
 obtain ⟨r20, hr20, hg⟩ := bind_some hg
 apply wL
 refine mv s rfl rfl fun a s => ?_
 refine mv s rfl rfl fun a s => ?_
 refine l_seq rfl (l_call (cap := []) s rfl func24 rfl (by kernel_rfl) rfl rfl (c_poset_Maximal n _ _ s.lt t_ (Ap01) (cp01) (s.ft 101 rfl) t_' (Ap11) (cp11) (s.ft 102 rfl) r17 hr17) fun v23 a w hK hp s => ?_)
 obtain ⟨Au24a1, cu24a1, rfl, hu24a1⟩ := hp
 replace s := s.ns 105 hu24a1
 refine mv s rfl rfl fun a s => ?_
 refine mv s rfl rfl fun a s => ?_
 refine l_seq rfl (l_call (cap := []) s rfl func26 rfl (by kernel_rfl) rfl rfl (c_poset_Minimal n _ _ s.lt t_ (Ap01) (cp01) (s.ft 101 rfl) t_' (Ap11) (cp11) (s.ft 102 rfl) r20 hr20) fun v25 a w hK hp s => ?_)
 obtain ⟨Au26a1, cu26a1, rfl, hu26a1⟩ := hp
 replace s := s.ns 106 hu26a1
 refine asg s rfl rfl fun a s => ?_
 refine asg s rfl rfl fun a s => ?_
 apply wN
 apply wQ
 obtain ⟨r27, hr27, hg⟩ := bind_some hg
 apply wL
 refine mv s rfl rfl fun a s => ?_
 refine l_seq rfl (l_callOwn (cap := []) (post := (fun v ob w' => ∃ Ao co cso, ob = Ob.row Ao (r27).length co 9 1 cso ∧ v = sl Ao (r27) co ∧ RdAll Rep.str (fun b => mtb _ _ b ∨ ob.ids b) w' cso (r27))) s 1401 rfl rfl func19 rfl (by kernel_rfl) rfl rfl ((c_r03_Names n _ _ s.lt t_ (Ap01) (cp01) (s.ft 101 rfl) r27 hr27).mono (fun e w' h => by obtain ⟨v, he, hk, Ao, co, cso, hv, ho1, ho2, ho3⟩ := h; exact ⟨v, he, hk, _, ho1, ho2, ⟨Ao, co, cso, rfl, hv, ho3⟩⟩)) fun v31 ob a w hK hp s => ?_)
 obtain ⟨Au30, cu30, csu30, rfl, rfl, hou30⟩ := hp
 replace s := s.add 108 (rdF Rep.str csu30 (r27)) (RdAll.up2 s hou30)
 refine asg s rfl rfl fun a s => ?_
 apply wN
 apply wQ
 apply wR
 refine mv s rfl rfl fun a s => ?_
 refine qq s rfl (y_lenSlice s rfl underlying27) fun a s => ?_
 refine mv s rfl rfl fun a s => ?_
 apply wN
 obtain ⟨k32, hg, hk32⟩ := jn_some hg
 refine c_post (fun a w => k32 = some r ∧ St (⟨Try.f8.ntmps, M, noB, w0⟩ : Ctx) [(0, sl Ap01 (t_) cp01), (1, sl Ap11 (t_') cp11), (5, sl Au24a1 (r17) cu24a1), (6, sl Au26a1 (r20) cu26a1)] [] [(101, slF RTypeDecl (Ap01) ((t_).length) (cp01) (t_)), (102, slF Rep.str (Ap11) ((t_').length) (cp11) (t_')), (105, slF Rep.str (Au24a1) ((r17).length) (cu24a1) (r17)), (106, slF Rep.str (Au26a1) ((r20).length) (cu26a1) (r20))] a w) ?_ ?_
 ·apply wp_block
  refine c_loop (σ := Nat) (fun m1 a w => ∃ (t_33 : Nat), law03_PosetCovers_L0 n t_ t_' r17 r20 r27 k32 m1 t_33 = some r ∧ St (⟨Try.f8.ntmps, M, noB, w0⟩ : Ctx) [(0, sl Ap01 (t_) cp01), (1, sl Ap11 (t_') cp11), (5, sl Au24a1 (r17) cu24a1), (6, sl Au26a1 (r20) cu26a1), (7, sl Au30 (r27) cu30), (39, sl Ap11 (t_') cp11), (40, vI ((((t_').length : Nat) : Int))), (41, vI (((t_33 : Nat) : Int)))] [(1401, Ob.row (Au30) ((r27).length) (cu30) 9 1 (csu30))] [(101, slF RTypeDecl (Ap01) ((t_).length) (cp01) (t_)), (102, slF Rep.str (Ap11) ((t_').length) (cp11) (t_')), (105, slF Rep.str (Au24a1) ((r17).length) (cu24a1) (r17)), (106, slF Rep.str (Au26a1) ((r20).length) (cu26a1) (r20)), (108, rdF Rep.str (csu30) (r27))] a w) (fun m1 => m1) n ⟨(0), hg, (s.sb rfl rfl rfl)⟩ ?_
  clear s a; rintro m1 a w ⟨t_33, hg, s⟩
  rcases m1 with _ | m1
  ·rw [law03_PosetCovers_L0] at hg; cases hg
  rw [law03_PosetCovers_L0] at hg
  apply wR
  refine qq s rfl (y_lssN (i := t_33) (j := ((t_').length)) s rfl rfl) fun a s => ?_
  apply wN
  apply wQ
  refine c_dec s rfl (fun hc34 => ?_) (fun hc34 => ?_)
  ·replace hg := br_t hg hc34
   have hmx35 := SlR.mx (s.ft 102 rfl)
   apply wp_skip
   apply pN
   apply wQ
   apply wp_block
   apply wQ
   obtain ⟨x37, hx37, hg⟩ := bind_some hg
   apply wL
   obtain ⟨p39, hep39, hpp39⟩ := SlR.elemX (s.ft 102 rfl) hx37
   refine qq s rfl (y_elem (sz := 1) (i := t_33) s rfl rfl underlying27 rfl hep39 rfl (lt_of_get hx37)) fun a s => ?_
   obtain ⟨hlq40, hmq40, csq40, hdq40, hcq40⟩ := hpp39
   obtain ⟨rfl, lq401⟩ := hdq40
   refine qq s rfl (y_ldp1 s rfl hlq40 hmq40 (hcq40 0 _ rfl) underlying9 rfl) fun a s => ?_
   refine asg s rfl rfl fun a s => ?_
   apply wN
   apply wQ
   apply wQ
   obtain ⟨r41, hr41, hg⟩ := bind_some hg
   apply wL
   refine mv s rfl rfl fun a s => ?_
   refine mv s rfl rfl fun a s => ?_
   have hT := s
   replace hT := hT.fz (R := Rep.str) (kk := 1401) [] 110 rfl rfl (hT.ft 108 rfl) rfl
   refine l_seq rfl (l_call (cap := []) s rfl func28 rfl (by kernel_rfl) rfl rfl (c_r03_Among n _ _ hT.lt r27 (Au30) (cu30) (hT.ft 110 rfl) x37 (by omega) r41 hr41) fun v44 a w hK hp s => ?_)
   obtain rfl := hp
   refine qq s rfl (y_not s rfl) fun a s => ?_
   apply wN
   refine c_cond s rfl (fun hc46 => ?_) (fun hc46 => ?_)
   ·replace hg := br_t hg hc46
    apply wp_exit
    refine p_then ?_
    refine p_in ?_
    apply pN
    apply wL
    refine qq s rfl (y_addN (i := t_33) (j := 1) s rfl rfl (in64.2 (by omega))) fun a s => ?_
    refine mv s rfl rfl fun a s => ?_
    apply wN
    exact ⟨m1, Nat.lt_succ_self _, ⟨(t_33 + 1), hg, (s.sb rfl rfl rfl)⟩⟩
   replace hg := br_n hg hc46
   apply wp_skip
   apply pN
   apply wR
   refine asg s rfl rfl fun a s => ?_
   refine asg s rfl rfl fun a s => ?_
   apply wN
   apply wQ
   apply wR
   refine mv s rfl rfl fun a s => ?_
   refine qq s rfl (y_lenSlice s rfl underlying27) fun a s => ?_
   refine mv s rfl rfl fun a s => ?_
   apply wN
   obtain ⟨k47, hg, hk47⟩ := jn_some hg
   refine c_post (fun a w => ∃ (t_48 : Bool), k47 t_48 = some r ∧ St (⟨Try.f8.ntmps, M, noB, w0⟩ : Ctx) [(0, sl Ap01 (t_) cp01), (1, sl Ap11 (t_') cp11), (5, sl Au24a1 (r17) cu24a1), (6, sl Au26a1 (r20) cu26a1), (7, sl Au30 (r27) cu30), (9, vT x37), (10, .bool (t_48)), (11, .bool (false)), (39, sl Ap11 (t_') cp11), (40, vI ((((t_').length : Nat) : Int))), (41, vI (((t_33 : Nat) : Int)))] [(1401, Ob.row (Au30) ((r27).length) (cu30) 9 1 (csu30))] [(101, slF RTypeDecl (Ap01) ((t_).length) (cp01) (t_)), (102, slF Rep.str (Ap11) ((t_').length) (cp11) (t_')), (105, slF Rep.str (Au24a1) ((r17).length) (cu24a1) (r17)), (106, slF Rep.str (Au26a1) ((r20).length) (cu26a1) (r20)), (108, rdF Rep.str (csu30) (r27))] a w) ?_ ?_
   ·apply wp_block
    refine c_loop (σ := Nat) (fun m2 a w => ∃ (t_49 : Bool) (t_50 : Nat), law03_PosetCovers_L1 n t_ r17 x37 k47 m2 t_49 t_50 = some r ∧ St (⟨Try.f8.ntmps, M, noB, w0⟩ : Ctx) [(0, sl Ap01 (t_) cp01), (1, sl Ap11 (t_') cp11), (5, sl Au24a1 (r17) cu24a1), (6, sl Au26a1 (r20) cu26a1), (7, sl Au30 (r27) cu30), (9, vT x37), (10, .bool (t_49)), (11, .bool (false)), (39, sl Ap11 (t_') cp11), (40, vI ((((t_').length : Nat) : Int))), (41, vI (((t_33 : Nat) : Int))), (49, sl Au24a1 (r17) cu24a1), (50, vI ((((r17).length : Nat) : Int))), (51, vI (((t_50 : Nat) : Int)))] [(1401, Ob.row (Au30) ((r27).length) (cu30) 9 1 (csu30))] [(101, slF RTypeDecl (Ap01) ((t_).length) (cp01) (t_)), (102, slF Rep.str (Ap11) ((t_').length) (cp11) (t_')), (105, slF Rep.str (Au24a1) ((r17).length) (cu24a1) (r17)), (106, slF Rep.str (Au26a1) ((r20).length) (cu26a1) (r20)), (108, rdF Rep.str (csu30) (r27))] a w) (fun m2 => m2) n ⟨(false), (0), hg, (s.sb rfl rfl rfl)⟩ ?_
    clear s a; rintro m2 a w ⟨t_49, t_50, hg, s⟩
    rcases m2 with _ | m2
    ·rw [law03_PosetCovers_L1] at hg; cases hg
    rw [law03_PosetCovers_L1] at hg
    apply wR
    refine qq s rfl (y_lssN (i := t_50) (j := ((r17).length)) s rfl rfl) fun a s => ?_
    apply wN
    apply wQ
    refine c_dec s rfl (fun hc51 => ?_) (fun hc51 => ?_)
    ·replace hg := br_t hg hc51
     have hmx52 := SlR.mx (s.ft 105 rfl)
     apply wp_skip
     apply pN
     apply wQ
     apply wp_block
     apply wQ
     obtain ⟨x54, hx54, hg⟩ := bind_some hg
     apply wL
     obtain ⟨p56, hep56, hpp56⟩ := SlR.elemX (s.ft 105 rfl) hx54
     refine qq s rfl (y_elem (sz := 1) (i := t_50) s rfl rfl underlying27 rfl hep56 rfl (lt_of_get hx54)) fun a s => ?_
     obtain ⟨hlq57, hmq57, csq57, hdq57, hcq57⟩ := hpp56
     obtain ⟨rfl, lq571⟩ := hdq57
     refine qq s rfl (y_ldp1 s rfl hlq57 hmq57 (hcq57 0 _ rfl) underlying9 rfl) fun a s => ?_
     refine asg s rfl rfl fun a s => ?_
     apply wN
     rcases Bool.eq_false_or_eq_true (t_49) with hs58 | hs58
     ·replace hg := br_t hg hs58
      apply wL
      refine qq s rfl (yl_b (y_move s rfl) hs58) fun a s => ?_
      refine mv s rfl rfl fun a s => ?_
      refine gn s rfl fun a s => ?_
      refine gn s rfl fun a s => ?_
      refine gn s rfl fun a s => ?_
      refine gn s rfl fun a s => ?_
      refine gn s rfl fun a s => ?_
      refine qq s rfl (y_pick_t s rfl rfl) fun a s => ?_
      refine asg s rfl rfl fun a s => ?_
      apply wO
      refine p_inN ?_
      apply pN
      apply wL
      refine qq s rfl (y_addN (i := t_50) (j := 1) s rfl rfl (in64.2 (by omega))) fun a s => ?_
      refine mv s rfl rfl fun a s => ?_
      apply wN
      exact ⟨m2, Nat.lt_succ_self _, ⟨(true), (t_50 + 1), hg, (s.sb rfl rfl rfl)⟩⟩
     replace hg := br_n hg hs58
     obtain ⟨r59, hr59, hg⟩ := bind_some hg
     obtain ⟨r62, hr62, hg⟩ := bind_some hg
     apply wL
     refine qq s rfl (yl_b (y_move s rfl) hs58) fun a s => ?_
     refine mv s rfl rfl fun a s => ?_
     refine gm s rfl rfl fun a s => ?_
     refine gm s rfl rfl fun a s => ?_
     refine gl s rfl (l_call (cap := []) s rfl func22 rfl (by kernel_rfl) rfl rfl (c_poset_Below n _ _ s.lt t_ (Ap01) (cp01) (s.ft 101 rfl) x54 (by omega) r59 hr59) fun v65 a w hK hp s => ?_)
     obtain ⟨Au66a1, cu66a1, rfl, hu66a1⟩ := hp
     replace s := s.ns 112 hu66a1
     refine gm s rfl rfl fun a s => ?_
     refine gl s rfl (l_call (cap := []) s rfl func28 rfl (by kernel_rfl) rfl rfl (c_r03_Among n _ _ s.lt r59 (Au66a1) (cu66a1) (s.ft 112 rfl) x37 (by omega) r62 hr62) fun v67 a w hK hp s => ?_)
     obtain rfl := hp
     refine qq s rfl (y_pick_f s rfl rfl) fun a s => ?_
     refine asg s rfl rfl fun a s => ?_
     apply wO
     refine p_inN ?_
     apply pN
     apply wL
     refine qq s rfl (y_addN (i := t_50) (j := 1) s rfl rfl (in64.2 (by omega))) fun a s => ?_
     refine mv s rfl rfl fun a s => ?_
     apply wN
     exact ⟨m2, Nat.lt_succ_self _, ⟨(r62), (t_50 + 1), hg, (s.sb rfl rfl rfl)⟩⟩
    replace hg := br_f hg hc51
    apply wp_exit
    refine p_then ?_
    refine p_then ?_
    refine p_in ?_
    apply pN
    exact ⟨(t_49), hg, (s.sb rfl rfl rfl)⟩
   clear s a; rintro a w ⟨t_48, hg, s⟩
   subst hk47
   apply wQ
   apply wR
   refine mv s rfl rfl fun a s => ?_
   refine qq s rfl (y_lenSlice s rfl underlying27) fun a s => ?_
   refine mv s rfl rfl fun a s => ?_
   apply wN
   obtain ⟨k69, hg, hk69⟩ := jn_some hg
   refine c_post (fun a w => ∃ (t_70 : Bool), k69 t_70 = some r ∧ St (⟨Try.f8.ntmps, M, noB, w0⟩ : Ctx) [(0, sl Ap01 (t_) cp01), (1, sl Ap11 (t_') cp11), (5, sl Au24a1 (r17) cu24a1), (6, sl Au26a1 (r20) cu26a1), (7, sl Au30 (r27) cu30), (10, .bool (t_48)), (11, .bool (t_70)), (39, sl Ap11 (t_') cp11), (40, vI ((((t_').length : Nat) : Int))), (41, vI (((t_33 : Nat) : Int)))] [(1401, Ob.row (Au30) ((r27).length) (cu30) 9 1 (csu30))] [(101, slF RTypeDecl (Ap01) ((t_).length) (cp01) (t_)), (102, slF Rep.str (Ap11) ((t_').length) (cp11) (t_')), (105, slF Rep.str (Au24a1) ((r17).length) (cu24a1) (r17)), (106, slF Rep.str (Au26a1) ((r20).length) (cu26a1) (r20)), (108, rdF Rep.str (csu30) (r27))] a w) ?_ ?_
   ·apply wp_block
    refine c_loop (σ := Nat) (fun m3 a w => ∃ (t_71 : Bool) (t_72 : Nat), law03_PosetCovers_L2 n t_ r20 x37 k69 m3 t_71 t_72 = some r ∧ St (⟨Try.f8.ntmps, M, noB, w0⟩ : Ctx) [(0, sl Ap01 (t_) cp01), (1, sl Ap11 (t_') cp11), (5, sl Au24a1 (r17) cu24a1), (6, sl Au26a1 (r20) cu26a1), (7, sl Au30 (r27) cu30), (9, vT x37), (10, .bool (t_48)), (11, .bool (t_71)), (39, sl Ap11 (t_') cp11), (40, vI ((((t_').length : Nat) : Int))), (41, vI (((t_33 : Nat) : Int))), (64, sl Au26a1 (r20) cu26a1), (65, vI ((((r20).length : Nat) : Int))), (66, vI (((t_72 : Nat) : Int)))] [(1401, Ob.row (Au30) ((r27).length) (cu30) 9 1 (csu30))] [(101, slF RTypeDecl (Ap01) ((t_).length) (cp01) (t_)), (102, slF Rep.str (Ap11) ((t_').length) (cp11) (t_')), (105, slF Rep.str (Au24a1) ((r17).length) (cu24a1) (r17)), (106, slF Rep.str (Au26a1) ((r20).length) (cu26a1) (r20)), (108, rdF Rep.str (csu30) (r27))] a w) (fun m3 => m3) n ⟨(false), (0), hg, (s.sb rfl rfl rfl)⟩ ?_
    clear s a; rintro m3 a w ⟨t_71, t_72, hg, s⟩
    rcases m3 with _ | m3
    ·rw [law03_PosetCovers_L2] at hg; cases hg
    rw [law03_PosetCovers_L2] at hg
    apply wR
    refine qq s rfl (y_lssN (i := t_72) (j := ((r20).length)) s rfl rfl) fun a s => ?_
    apply wN
    apply wQ
    refine c_dec s rfl (fun hc73 => ?_) (fun hc73 => ?_)
    ·replace hg := br_t hg hc73
     have hmx74 := SlR.mx (s.ft 106 rfl)
     apply wp_skip
     apply pN
     apply wQ
     apply wp_block
     apply wQ
     obtain ⟨x76, hx76, hg⟩ := bind_some hg
     apply wL
     obtain ⟨p78, hep78, hpp78⟩ := SlR.elemX (s.ft 106 rfl) hx76
     refine qq s rfl (y_elem (sz := 1) (i := t_72) s rfl rfl underlying27 rfl hep78 rfl (lt_of_get hx76)) fun a s => ?_
     obtain ⟨hlq79, hmq79, csq79, hdq79, hcq79⟩ := hpp78
     obtain ⟨rfl, lq791⟩ := hdq79
     refine qq s rfl (y_ldp1 s rfl hlq79 hmq79 (hcq79 0 _ rfl) underlying9 rfl) fun a s => ?_
     refine asg s rfl rfl fun a s => ?_
     apply wN
     rcases Bool.eq_false_or_eq_true (t_71) with hs80 | hs80
     ·replace hg := br_t hg hs80
      apply wL
      refine qq s rfl (yl_b (y_move s rfl) hs80) fun a s => ?_
      refine mv s rfl rfl fun a s => ?_
      refine gn s rfl fun a s => ?_
      refine gn s rfl fun a s => ?_
      refine gn s rfl fun a s => ?_
      refine gn s rfl fun a s => ?_
      refine gn s rfl fun a s => ?_
      refine qq s rfl (y_pick_t s rfl rfl) fun a s => ?_
      refine asg s rfl rfl fun a s => ?_
      apply wO
      refine p_inN ?_
      apply pN
      apply wL
      refine qq s rfl (y_addN (i := t_72) (j := 1) s rfl rfl (in64.2 (by omega))) fun a s => ?_
      refine mv s rfl rfl fun a s => ?_
      apply wN
      exact ⟨m3, Nat.lt_succ_self _, ⟨(true), (t_72 + 1), hg, (s.sb rfl rfl rfl)⟩⟩
     replace hg := br_n hg hs80
     obtain ⟨r81, hr81, hg⟩ := bind_some hg
     obtain ⟨r84, hr84, hg⟩ := bind_some hg
     apply wL
     refine qq s rfl (yl_b (y_move s rfl) hs80) fun a s => ?_
     refine mv s rfl rfl fun a s => ?_
     refine gm s rfl rfl fun a s => ?_
     refine gm s rfl rfl fun a s => ?_
     refine gl s rfl (l_call (cap := []) s rfl func20 rfl (by kernel_rfl) rfl rfl (c_poset_Above n _ _ s.lt t_ (Ap01) (cp01) (s.ft 101 rfl) x76 (by omega) r81 hr81) fun v87 a w hK hp s => ?_)
     obtain ⟨Au88a1, cu88a1, rfl, hu88a1⟩ := hp
     replace s := s.ns 114 hu88a1
     refine gm s rfl rfl fun a s => ?_
     refine gl s rfl (l_call (cap := []) s rfl func28 rfl (by kernel_rfl) rfl rfl (c_r03_Among n _ _ s.lt r81 (Au88a1) (cu88a1) (s.ft 114 rfl) x37 (by omega) r84 hr84) fun v89 a w hK hp s => ?_)
     obtain rfl := hp
     refine qq s rfl (y_pick_f s rfl rfl) fun a s => ?_
     refine asg s rfl rfl fun a s => ?_
     apply wO
     refine p_inN ?_
     apply pN
     apply wL
     refine qq s rfl (y_addN (i := t_72) (j := 1) s rfl rfl (in64.2 (by omega))) fun a s => ?_
     refine mv s rfl rfl fun a s => ?_
     apply wN
     exact ⟨m3, Nat.lt_succ_self _, ⟨(r84), (t_72 + 1), hg, (s.sb rfl rfl rfl)⟩⟩
    replace hg := br_f hg hc73
    apply wp_exit
    refine p_then ?_
    refine p_then ?_
    refine p_in ?_
    apply pN
    exact ⟨(t_71), hg, (s.sb rfl rfl rfl)⟩
   clear s a; rintro a w ⟨t_70, hg, s⟩
   subst hk69
   apply wQ
   obtain ⟨k91, hg, hk91⟩ := jn_some hg
   refine c_post (fun a w => ∃ (t_92 : Bool), k91 t_92 = some r ∧ St (⟨Try.f8.ntmps, M, noB, w0⟩ : Ctx) [(0, sl Ap01 (t_) cp01), (1, sl Ap11 (t_') cp11), (5, sl Au24a1 (r17) cu24a1), (6, sl Au26a1 (r20) cu26a1), (7, sl Au30 (r27) cu30), (39, sl Ap11 (t_') cp11), (40, vI ((((t_').length : Nat) : Int))), (41, vI (((t_33 : Nat) : Int))), (84, .bool (t_92))] [(1401, Ob.row (Au30) ((r27).length) (cu30) 9 1 (csu30))] [(101, slF RTypeDecl (Ap01) ((t_).length) (cp01) (t_)), (102, slF Rep.str (Ap11) ((t_').length) (cp11) (t_')), (105, slF Rep.str (Au24a1) ((r17).length) (cu24a1) (r17)), (106, slF Rep.str (Au26a1) ((r20).length) (cu26a1) (r20)), (108, rdF Rep.str (csu30) (r27))] a w) ?_ ?_
   ·rcases Bool.eq_false_or_eq_true (!(t_48)) with hs93 | hs93
    ·replace hg := br_t hg hs93
     apply wL
     refine mv s rfl rfl fun a s => ?_
     refine qq s rfl (yl_b (y_not s rfl) hs93) fun a s => ?_
     refine mv s rfl rfl fun a s => ?_
     refine gn s rfl fun a s => ?_
     refine gn s rfl fun a s => ?_
     refine qq s rfl (y_pick_t s rfl rfl) fun a s => ?_
     apply wN
     exact ⟨(true), hg, (s.sb rfl rfl rfl)⟩
    replace hg := br_n hg hs93
    apply wL
    refine mv s rfl rfl fun a s => ?_
    refine qq s rfl (yl_b (y_not s rfl) hs93) fun a s => ?_
    refine mv s rfl rfl fun a s => ?_
    refine gm s rfl rfl fun a s => ?_
    refine gy s rfl (y_not s rfl) fun a s => ?_
    refine qq s rfl (y_pick_f s rfl rfl) fun a s => ?_
    apply wN
    exact ⟨(!(t_70)), hg, (s.sb rfl rfl rfl)⟩
   clear s a; rintro a w ⟨t_92, hg, s⟩
   subst hk91
   refine c_cond s rfl (fun hc94 => ?_) (fun hc94 => ?_)
   ·replace hg := br_t hg hc94
    apply wR
    refine asg s rfl rfl fun a s => ?_
    apply wN
    apply wp_ret
    refine p_inR ?_
    refine p_thenR ?_
    refine p_thenR ?_
    refine p_inR ?_
    refine p_thenR ?_
    obtain rfl := Option.some.inj hg
    refine fin1 (fn := Try.f8) s rfl (r_tmp s rfl) ?_
    exact rfl
   replace hg := br_n hg hc94
   apply wp_skip
   refine p_inN ?_
   apply pN
   apply wL
   refine qq s rfl (y_addN (i := t_33) (j := 1) s rfl rfl (in64.2 (by omega))) fun a s => ?_
   refine mv s rfl rfl fun a s => ?_
   apply wN
   exact ⟨m1, Nat.lt_succ_self _, ⟨(t_33 + 1), hg, (s.sb rfl rfl rfl)⟩⟩
  replace hg := br_f hg hc34
  apply wp_exit
  refine p_then ?_
  refine p_then ?_
  refine p_in ?_
  apply pN
  exact ⟨hg, (s.sb rfl rfl rfl)⟩
 clear s a; rintro a w ⟨hg, s⟩
 subst hk32
 apply wQ
 apply wR
 refine mv s rfl rfl fun a s => ?_
 refine mv s rfl rfl fun a s => ?_
 refine l_seq rfl (l_buildDense (sz := 1) s 3302 rfl rfl rfl underlying37 rfl rfl rfl rfl rfl rfl rfl fun b96 a w hbb96 hK s => ?_)
 clear hbb96
 refine qq s rfl (y_lenSlice s rfl underlying37) fun a s => ?_
 refine mv s rfl rfl fun a s => ?_
 apply wN
 obtain ⟨k97, hg, hk97⟩ := jn_some hg
 refine c_post (fun a w => k97 = some r ∧ St (⟨Try.f8.ntmps, M, noB, w0⟩ : Ctx) [] [] [] a w) ?_ ?_
 ·apply wp_block
  replace s := s.add 117 (rdF (Rep.list Rep.str) (cellsOfL [sl Au24a1 (r17) cu24a1, sl Au26a1 (r20) cu26a1]) ([r17, r20])) (RdAll.cons (by exact ⟨_, _, _, rfl, (s.ft 105 rfl)⟩) (RdAll.cons (by exact ⟨_, _, _, rfl, (s.ft 106 rfl)⟩) (RdAll.nil _ _ _)))
  replace s := s.al 116 117 rfl
  replace s := s.pk [(700115, 3302)] (by decide)
  refine c_loop (σ := Nat) (fun m4 a w => ∃ (t_98 : (List (List (List UInt8)))), ∃ (t_102 : Nat) (A99 : Option Addr) (c100 : Nat) (cs101 : List Value), law03_PosetCovers_L3 n t_ t_' k97 m4 t_98 t_102 = some r ∧ St (⟨Try.f8.ntmps, M, noB, w0⟩ : Ctx) [(0, sl Ap01 (t_) cp01), (1, sl Ap11 (t_') cp11), (88, sl A99 (t_98) c100), (89, vI 2), (90, vI (((t_102 : Nat) : Int)))] [(700115, Ob.row (A99) ((t_98).length) (c100) 27 1 (cs101))] [(101, slF RTypeDecl (Ap01) ((t_).length) (cp01) (t_)), (102, slF Rep.str (Ap11) ((t_').length) (cp11) (t_')), (116, rdF (Rep.list Rep.str) (cs101) (t_98))] a w) (fun m4 => m4) n ⟨([r17, r20]), (0), (some ⟨b96, 0, none⟩), (2), (cellsOfL [sl Au24a1 (r17) cu24a1, sl Au26a1 (r20) cu26a1]), hg, (s.sb rfl rfl rfl)⟩ ?_
  clear s a; rintro m4 a w ⟨t_98, t_102, A99, c100, cs101, hg, s⟩
  rcases m4 with _ | m4
  ·rw [law03_PosetCovers_L3] at hg; cases hg
  rw [law03_PosetCovers_L3] at hg
  apply wR
  refine qq s rfl (y_lssN (i := t_102) (j := 2) s rfl rfl) fun a s => ?_
  apply wN
  apply wQ
  refine c_dec s rfl (fun hc103 => ?_) (fun hc103 => ?_)
  ·replace hg := br_t hg hc103
   apply wp_skip
   apply pN
   apply wQ
   obtain ⟨k104, hg, hk104⟩ := jn_some hg
   refine c_post (fun a w => k104 = some r ∧ St (⟨Try.f8.ntmps, M, noB, w0⟩ : Ctx) [(0, sl Ap01 (t_) cp01), (1, sl Ap11 (t_') cp11), (88, sl A99 (t_98) c100), (89, vI 2), (90, vI (((t_102 : Nat) : Int)))] [(700115, Ob.row (A99) ((t_98).length) (c100) 27 1 (cs101))] [(101, slF RTypeDecl (Ap01) ((t_).length) (cp01) (t_)), (102, slF Rep.str (Ap11) ((t_').length) (cp11) (t_')), (116, rdF (Rep.list Rep.str) (cs101) (t_98))] a w) ?_ ?_
   ·apply wp_block
    apply wQ
    obtain ⟨x106, hx106, hg⟩ := bind_some hg
    apply wL
    obtain ⟨hiq108, bq108, hAq108⟩ := SlR.row1 (s.wd.holds 700115 _ rfl) (s.ft 116 rfl) rfl rfl hx106
    refine qq s rfl (y_rowIndex (sz := 1) (i := t_102) s rfl rfl underlying37 rfl hAq108 rfl hiq108) fun a s => ?_
    have hz109 := (s.ft 116 rfl).at_ _ _ hx106
    obtain ⟨Az1091, nnz109, cz1091, ez109, hz1091⟩ := hz109
    obtain rfl := hz1091.len
    replace s := s.ns 119 hz1091
    refine qq s rfl (y_loadRow1 (kk := 700115) s rfl rfl hAq108 (take1 ez109) underlying27 rfl) fun a s => ?_
    refine asg s rfl rfl fun a s => ?_
    apply wN
    apply wR
    refine mv s rfl rfl fun a s => ?_
    refine qq s rfl (y_lenSlice s rfl underlying27) fun a s => ?_
    refine mv s rfl rfl fun a s => ?_
    apply wN
    apply wp_block
    refine c_loop (σ := Nat) (fun m5 a w => ∃ (t_110 : Nat), law03_PosetCovers_L4 n t_ t_' k104 x106 m5 t_110 = some r ∧ St (⟨Try.f8.ntmps, M, noB, w0⟩ : Ctx) [(0, sl Ap01 (t_) cp01), (1, sl Ap11 (t_') cp11), (17, sl Az1091 (x106) cz1091), (88, sl A99 (t_98) c100), (89, vI 2), (90, vI (((t_102 : Nat) : Int))), (94, sl Az1091 (x106) cz1091), (95, vI ((((x106).length : Nat) : Int))), (96, vI (((t_110 : Nat) : Int)))] [(700115, Ob.row (A99) ((t_98).length) (c100) 27 1 (cs101))] [(101, slF RTypeDecl (Ap01) ((t_).length) (cp01) (t_)), (102, slF Rep.str (Ap11) ((t_').length) (cp11) (t_')), (116, rdF (Rep.list Rep.str) (cs101) (t_98)), (119, slF Rep.str (Az1091) ((x106).length) (cz1091) (x106))] a w) (fun m5 => m5) n ⟨(0), hg, (s.sb rfl rfl rfl)⟩ ?_
    clear s a; rintro m5 a w ⟨t_110, hg, s⟩
    rcases m5 with _ | m5
    ·rw [law03_PosetCovers_L4] at hg; cases hg
    rw [law03_PosetCovers_L4] at hg
    apply wR
    refine qq s rfl (y_lssN (i := t_110) (j := ((x106).length)) s rfl rfl) fun a s => ?_
    apply wN
    apply wQ
    refine c_dec s rfl (fun hc111 => ?_) (fun hc111 => ?_)
    ·replace hg := br_t hg hc111
     have hmx112 := SlR.mx (s.ft 119 rfl)
     apply wp_skip
     apply pN
     apply wQ
     obtain ⟨k113, hg, hk113⟩ := jn_some hg
     refine c_post (fun a w => k113 = some r ∧ St (⟨Try.f8.ntmps, M, noB, w0⟩ : Ctx) [(0, sl Ap01 (t_) cp01), (1, sl Ap11 (t_') cp11), (17, sl Az1091 (x106) cz1091), (88, sl A99 (t_98) c100), (89, vI 2), (90, vI (((t_102 : Nat) : Int))), (94, sl Az1091 (x106) cz1091), (95, vI ((((x106).length : Nat) : Int))), (96, vI (((t_110 : Nat) : Int)))] [(700115, Ob.row (A99) ((t_98).length) (c100) 27 1 (cs101))] [(101, slF RTypeDecl (Ap01) ((t_).length) (cp01) (t_)), (102, slF Rep.str (Ap11) ((t_').length) (cp11) (t_')), (116, rdF (Rep.list Rep.str) (cs101) (t_98)), (119, slF Rep.str (Az1091) ((x106).length) (cz1091) (x106))] a w) ?_ ?_
     ·apply wp_block
      apply wQ
      obtain ⟨x115, hx115, hg⟩ := bind_some hg
      apply wL
      refine mv s rfl rfl fun a s => ?_
      obtain ⟨p117, hep117, hpp117⟩ := SlR.elemX (s.ft 119 rfl) hx115
      refine qq s rfl (y_elem (sz := 1) (i := t_110) s rfl rfl underlying27 rfl hep117 rfl (lt_of_get hx115)) fun a s => ?_
      obtain ⟨hlq118, hmq118, csq118, hdq118, hcq118⟩ := hpp117
      obtain ⟨rfl, lq1181⟩ := hdq118
      refine qq s rfl (y_ldp1 s rfl hlq118 hmq118 (hcq118 0 _ rfl) underlying9 rfl) fun a s => ?_
      refine asg s rfl rfl fun a s => ?_
      refine asg s rfl rfl fun a s => ?_
      apply wN
      apply wR
      refine mv s rfl rfl fun a s => ?_
      refine qq s rfl (y_lenSlice s rfl underlying27) fun a s => ?_
      refine mv s rfl rfl fun a s => ?_
      apply wN
      apply wp_block
      refine c_loop (σ := Nat) (fun m6 a w => ∃ (t_119 : Nat), law03_PosetCovers_L5 n t_ t_' x106 t_110 k113 x115 m6 t_119 = some r ∧ St (⟨Try.f8.ntmps, M, noB, w0⟩ : Ctx) [(0, sl Ap01 (t_) cp01), (1, sl Ap11 (t_') cp11), (17, sl Az1091 (x106) cz1091), (18, vI (((t_110 : Nat) : Int))), (19, vT x115), (88, sl A99 (t_98) c100), (89, vI 2), (90, vI (((t_102 : Nat) : Int))), (94, sl Az1091 (x106) cz1091), (95, vI ((((x106).length : Nat) : Int))), (96, vI (((t_110 : Nat) : Int))), (101, sl Az1091 (x106) cz1091), (102, vI ((((x106).length : Nat) : Int))), (103, vI (((t_119 : Nat) : Int)))] [(700115, Ob.row (A99) ((t_98).length) (c100) 27 1 (cs101))] [(101, slF RTypeDecl (Ap01) ((t_).length) (cp01) (t_)), (102, slF Rep.str (Ap11) ((t_').length) (cp11) (t_')), (116, rdF (Rep.list Rep.str) (cs101) (t_98)), (119, slF Rep.str (Az1091) ((x106).length) (cz1091) (x106))] a w) (fun m6 => m6) n ⟨(0), hg, (s.sb rfl rfl rfl)⟩ ?_
      clear s a; rintro m6 a w ⟨t_119, hg, s⟩
      rcases m6 with _ | m6
      ·rw [law03_PosetCovers_L5] at hg; cases hg
      rw [law03_PosetCovers_L5] at hg
      apply wR
      refine qq s rfl (y_lssN (i := t_119) (j := ((x106).length)) s rfl rfl) fun a s => ?_
      apply wN
      apply wQ
      refine c_dec s rfl (fun hc120 => ?_) (fun hc120 => ?_)
      ·replace hg := br_t hg hc120
       have hmx121 := SlR.mx (s.ft 119 rfl)
       apply wp_skip
       apply pN
       apply wQ
       apply wp_block
       apply wQ
       obtain ⟨x123, hx123, hg⟩ := bind_some hg
       apply wL
       refine mv s rfl rfl fun a s => ?_
       obtain ⟨p125, hep125, hpp125⟩ := SlR.elemX (s.ft 119 rfl) hx123
       refine qq s rfl (y_elem (sz := 1) (i := t_119) s rfl rfl underlying27 rfl hep125 rfl (lt_of_get hx123)) fun a s => ?_
       obtain ⟨hlq126, hmq126, csq126, hdq126, hcq126⟩ := hpp125
       obtain ⟨rfl, lq1261⟩ := hdq126
       refine qq s rfl (y_ldp1 s rfl hlq126 hmq126 (hcq126 0 _ rfl) underlying9 rfl) fun a s => ?_
       refine asg s rfl rfl fun a s => ?_
       refine asg s rfl rfl fun a s => ?_
       apply wN
       apply wQ
       obtain ⟨k127, hg, hk127⟩ := jn_some hg
       refine c_post (fun a w => ∃ (t_128 : Bool), k127 t_128 = some r ∧ St (⟨Try.f8.ntmps, M, noB, w0⟩ : Ctx) [(0, sl Ap01 (t_) cp01), (1, sl Ap11 (t_') cp11), (17, sl Az1091 (x106) cz1091), (18, vI (((t_110 : Nat) : Int))), (19, vT x115), (88, sl A99 (t_98) c100), (89, vI 2), (90, vI (((t_102 : Nat) : Int))), (94, sl Az1091 (x106) cz1091), (95, vI ((((x106).length : Nat) : Int))), (96, vI (((t_110 : Nat) : Int))), (101, sl Az1091 (x106) cz1091), (102, vI ((((x106).length : Nat) : Int))), (103, vI (((t_119 : Nat) : Int))), (123, .bool (t_128))] [(700115, Ob.row (A99) ((t_98).length) (c100) 27 1 (cs101))] [(101, slF RTypeDecl (Ap01) ((t_).length) (cp01) (t_)), (102, slF Rep.str (Ap11) ((t_').length) (cp11) (t_')), (116, rdF (Rep.list Rep.str) (cs101) (t_98)), (119, slF Rep.str (Az1091) ((x106).length) (cz1091) (x106))] a w) ?_ ?_
       ·obtain ⟨r129, hr129, hg⟩ := bind_some hg
        rcases Bool.eq_false_or_eq_true (!(r129)) with hs132 | hs132
        ·replace hg := br_t hg hs132
         apply wL
         refine mv s rfl rfl fun a s => ?_
         refine mv s rfl rfl fun a s => ?_
         refine l_seq rfl (l_call (cap := []) s rfl func28 rfl (by kernel_rfl) rfl rfl (c_r03_Among n _ _ s.lt t_' (Ap11) (cp11) (s.ft 102 rfl) x115 (by omega) r129 hr129) fun v133 a w hK hp s => ?_)
         obtain rfl := hp
         refine qq s rfl (yl_b (y_not s rfl) hs132) fun a s => ?_
         refine mv s rfl rfl fun a s => ?_
         refine gn s rfl fun a s => ?_
         refine gn s rfl fun a s => ?_
         refine gn s rfl fun a s => ?_
         refine gn s rfl fun a s => ?_
         refine gn s rfl fun a s => ?_
         refine gn s rfl fun a s => ?_
         refine gn s rfl fun a s => ?_
         refine gn s rfl fun a s => ?_
         refine gn s rfl fun a s => ?_
         refine gn s rfl fun a s => ?_
         refine qq s rfl (y_pick_t s rfl rfl) fun a s => ?_
         apply wN
         exact ⟨(true), hg, (s.sb rfl rfl rfl)⟩
        replace hg := br_n hg hs132
        rcases Decidable.em (t_119 ≠ t_110) with hs135 | hs135
        ·have hs135e := decide_eq_true hs135
         replace hg := br_t hg hs135
         obtain ⟨r136, hr136, hg⟩ := bind_some hg
         obtain ⟨r139, hr139, hg⟩ := bind_some hg
         apply wL
         refine mv s rfl rfl fun a s => ?_
         refine mv s rfl rfl fun a s => ?_
         refine l_seq rfl (l_call (cap := []) s rfl func28 rfl (by kernel_rfl) rfl rfl (c_r03_Among n _ _ s.lt t_' (Ap11) (cp11) (s.ft 102 rfl) x115 (by omega) r129 hr129) fun v142 a w hK hp s => ?_)
         obtain rfl := hp
         refine qq s rfl (yl_b (y_not s rfl) hs132) fun a s => ?_
         refine mv s rfl rfl fun a s => ?_
         refine gm s rfl rfl fun a s => ?_
         refine gm s rfl rfl fun a s => ?_
         refine gy s rfl (yl_b (y_neqN (i := t_119) (j := t_110) s rfl rfl) hs135e) fun a s => ?_
         refine gm s rfl rfl fun a s => ?_
         refine gm s rfl rfl fun a s => ?_
         refine gm s rfl rfl fun a s => ?_
         refine gl s rfl (l_call (cap := []) s rfl func22 rfl (by kernel_rfl) rfl rfl (c_poset_Below n _ _ s.lt t_ (Ap01) (cp01) (s.ft 101 rfl) x123 (by omega) r136 hr136) fun v144 a w hK hp s => ?_)
         obtain ⟨Au145a1, cu145a1, rfl, hu145a1⟩ := hp
         replace s := s.ns 121 hu145a1
         refine gm s rfl rfl fun a s => ?_
         refine gl s rfl (l_call (cap := []) s rfl func28 rfl (by kernel_rfl) rfl rfl (c_r03_Among n _ _ s.lt r136 (Au145a1) (cu145a1) (s.ft 121 rfl) x115 (by omega) r139 hr139) fun v146 a w hK hp s => ?_)
         obtain rfl := hp
         refine gy s rfl (y_pick_t s rfl rfl) fun a s => ?_
         refine qq s rfl (y_pick_f s rfl rfl) fun a s => ?_
         apply wN
         exact ⟨(r139), hg, (s.sb rfl rfl rfl)⟩
        have hs135e := decide_eq_false hs135
        replace hg := br_f hg hs135
        apply wL
        refine mv s rfl rfl fun a s => ?_
        refine mv s rfl rfl fun a s => ?_
        refine l_seq rfl (l_call (cap := []) s rfl func28 rfl (by kernel_rfl) rfl rfl (c_r03_Among n _ _ s.lt t_' (Ap11) (cp11) (s.ft 102 rfl) x115 (by omega) r129 hr129) fun v148 a w hK hp s => ?_)
        obtain rfl := hp
        refine qq s rfl (yl_b (y_not s rfl) hs132) fun a s => ?_
        refine mv s rfl rfl fun a s => ?_
        refine gm s rfl rfl fun a s => ?_
        refine gm s rfl rfl fun a s => ?_
        refine gy s rfl (yl_b (y_neqN (i := t_119) (j := t_110) s rfl rfl) hs135e) fun a s => ?_
        refine gm s rfl rfl fun a s => ?_
        refine gn s rfl fun a s => ?_
        refine gn s rfl fun a s => ?_
        refine gn s rfl fun a s => ?_
        refine gn s rfl fun a s => ?_
        refine gn s rfl fun a s => ?_
        refine gy s rfl (y_pick_f s rfl rfl) fun a s => ?_
        refine qq s rfl (y_pick_f s rfl rfl) fun a s => ?_
        apply wN
        exact ⟨(false), hg, (s.sb rfl rfl rfl)⟩
       clear s a; rintro a w ⟨t_128, hg, s⟩
       subst hk127
       refine c_cond s rfl (fun hc150 => ?_) (fun hc150 => ?_)
       ·replace hg := br_t hg hc150
        apply wR
        refine asg s rfl rfl fun a s => ?_
        apply wN
        apply wp_ret
        refine p_inR ?_
        refine p_thenR ?_
        refine p_thenR ?_
        refine p_inR ?_
        refine p_inR ?_
        refine p_thenR ?_
        refine p_thenR ?_
        refine p_inR ?_
        refine p_inR ?_
        refine p_thenR ?_
        refine p_thenR ?_
        refine p_inR ?_
        refine p_thenR ?_
        obtain rfl := Option.some.inj hg
        refine fin1 (fn := Try.f8) s rfl (r_tmp s rfl) ?_
        exact rfl
       replace hg := br_n hg hc150
       apply wp_skip
       refine p_inN ?_
       apply pN
       apply wL
       refine qq s rfl (y_addN (i := t_119) (j := 1) s rfl rfl (in64.2 (by omega))) fun a s => ?_
       refine mv s rfl rfl fun a s => ?_
       apply wN
       exact ⟨m6, Nat.lt_succ_self _, ⟨(t_119 + 1), hg, (s.sb rfl rfl rfl)⟩⟩
      replace hg := br_f hg hc120
      apply wp_exit
      refine p_then ?_
      refine p_then ?_
      refine p_in ?_
      refine p_inN ?_
      apply pN
      exact ⟨hg, (s.sb rfl rfl rfl)⟩
     clear s a; rintro a w ⟨hg, s⟩
     subst hk113
     apply wL
     refine qq s rfl (y_addN (i := t_110) (j := 1) s rfl rfl (in64.2 (by omega))) fun a s => ?_
     refine mv s rfl rfl fun a s => ?_
     apply wN
     exact ⟨m5, Nat.lt_succ_self _, ⟨(t_110 + 1), hg, (s.sb rfl rfl rfl)⟩⟩
    replace hg := br_f hg hc111
    apply wp_exit
    refine p_then ?_
    refine p_then ?_
    refine p_in ?_
    refine p_inN ?_
    apply pN
    exact ⟨hg, (s.sb rfl rfl rfl)⟩
   clear s a; rintro a w ⟨hg, s⟩
   subst hk104
   obtain ⟨hk151, hg⟩ := chk_some hg
   apply wL
   refine qq s rfl (y_addN (i := t_102) (j := 1) s rfl rfl (in64.2 (by omega))) fun a s => ?_
   refine mv s rfl rfl fun a s => ?_
   apply wN
   replace s := s.al 116 116 rfl
   exact ⟨m4, Nat.lt_succ_self _, ⟨(t_98), (t_102 + 1), (A99), (c100), (cs101), hg, (s.sb rfl rfl rfl)⟩⟩
  replace hg := br_f hg hc103
  apply wp_exit
  refine p_then ?_
  refine p_then ?_
  refine p_in ?_
  apply pN
  exact ⟨hg, (s.sb rfl rfl rfl)⟩
 clear s a; rintro a w ⟨hg, s⟩
 subst hk97
 apply wQ
 obtain ⟨r152, hr152, hg⟩ := bind_some hg
 apply wL
 refine l_seq rfl (l_call (cap := []) s rfl func12 rfl (by kernel_rfl) rfl rfl (c_law03_exampleHolds n _ _ s.lt  r152 hr152) fun v155 a w hK hp s => ?_)
 obtain rfl := hp
 refine asg s rfl rfl fun a s => ?_
 apply wN
 apply wp_ret
 obtain rfl := Option.some.inj hg
 refine fin1 (fn := Try.f8) s rfl (r_tmp s rfl) ?_
 exact rfl
end Go.Proofs.Ytoeolfnjblibpaa
