/- Chapter 03: the walk of PosetTurns -/
import Derived.Test.YtoeolfnjblibpaaW8
import Derived.Test.YtoeolfnjblibpaaGl27
namespace Go.Proofs.Ytoeolfnjblibpaa
open Go.Gl Go.RowKit Try
set_option linter.unusedVariables false
set_option linter.unusedSimpArgs false
set_option maxRecDepth 4000

set_option maxHeartbeats 400000 in
theorem c_law03_PosetTurns (n : Nat) (M : Bs) (w0 : World) (hM : ∀ b, M b → b < w0.heap.size) (t_ : (List TypeDecl)) (Ap01 : Option Addr) (cp01 : Nat) (hp01 : SlR RTypeDecl M w0 Ap01 (t_).length cp01 (t_)) (t_' : UInt8) (r : Bool) (hg : law03_PosetTurns n t_ t_' = some r) :
    Calls Try.prog 9 [.slice (Ap01) ((t_).length) (cp01), .int .u8 (((t_'.toNat : Nat) : Int))].toArray w0 (Ret noB w0 fun v w => v = .bool (r)) := by
 unfold law03_PosetTurns at hg
 refine enter M noB func9 rfl rfl hM ?_
 intro a s
 replace s := s.es 101 hp01
 apply wR
 refine asg s rfl rfl fun a s => ?_
 apply wN
 apply wQ
 apply wQ
 obtain ⟨r1, hr1, hg⟩ := bind_some hg
 apply wL
 refine mv s rfl rfl fun a s => ?_
 refine l_seq rfl (l_call (cap := []) s rfl func18 rfl (by kernel_rfl) rfl rfl (c_law03_valid n _ _ s.lt t_ (Ap01) (cp01) (s.ft 101 rfl) r1 hr1) fun v4 a w hK hp s => ?_)
 obtain rfl := hp
 refine qq s rfl (y_not s rfl) fun a s => ?_
 apply wN
 refine c_cond s rfl (fun hc6 => ?_) (fun hc6 => ?_)
 ·replace hg := br_t hg hc6
  apply wQ
  obtain ⟨r7, hr7, hg⟩ := bind_some hg
  apply wL
  refine l_seq rfl (l_call (cap := []) s rfl func12 rfl (by kernel_rfl) rfl rfl (c_law03_exampleHolds n _ _ s.lt  r7 hr7) fun v10 a w hK hp s => ?_)
  obtain rfl := hp
  refine asg s rfl rfl fun a s => ?_
  apply wN
  apply wp_ret
  refine p_thenR ?_
  obtain rfl := Option.some.inj hg
  refine fin1 (fn := Try.f9) s rfl (r_tmp s rfl) ?_
  exact rfl
 replace hg := br_n hg hc6
 apply wp_skip
 apply pN
 apply wQ
 obtain ⟨hk12, hg⟩ := chk_some hg
 apply wL
 refine mv s rfl rfl fun a s => ?_
 have hu8 := (t_').toNat_lt
 refine qq s rfl (y_conv s rfl underlying5 underlying3 (in64.2 (by omega))) fun a s => ?_
 clear hu8
 refine mv s rfl rfl fun a s => ?_
 refine qq s rfl (y_lenSlice s rfl underlying22) fun a s => ?_
 refine qq s rfl (y_remN (i := t_'.toNat) (j := ((t_).length)) s rfl rfl hk12) fun a s => ?_
 refine asg s rfl rfl fun a s => ?_
 apply wN
 apply wQ
 obtain ⟨hk14, hg⟩ := chk_some hg
 obtain ⟨hk15, hg⟩ := chk_some hg
 obtain ⟨hk18, hg⟩ := chk_some hg
 refine d_plan s [] [(1, some 0), (2, some 0), (3, some 0), (5, some 0), (6, some 0), (7, some 0), (0, none), (4, none), (8, none), (9, none)] rfl (by kernel_rfl) (by kernel_rfl) rfl ?_; clear s; intro wr hZ s; have hR := s.wd
 refine qt s hR rfl (y_move s rfl) fun a s => ?_
 refine qt s hR rfl (y_move s rfl) fun a s => ?_
 have hcap109 := (s.ft 101 rfl).cap
 refine qt s hR rfl (y_cutL (xs := t_) (sz := 3) (i := (t_'.toNat % ((t_).length))) s rfl rfl underlying22 rfl rfl hk14 hcap109) fun a s => ?_
 replace s := s.add 109 (slF RTypeDecl (if cp01 = t_'.toNat % ((t_).length) then Ap01 else (Ap01).map (·.add ((t_'.toNat % ((t_).length)) * 3))) (((t_).drop (t_'.toNat % ((t_).length))).length) (cp01 - (t_'.toNat % ((t_).length))) ((t_).drop (t_'.toNat % ((t_).length)))) (SlR.cutL (s.ft 101 rfl) (t_'.toNat % ((t_).length)) hk14)
 refine qt s hR rfl (y_move s rfl) fun a s => ?_
 refine qt s hR rfl (y_move s rfl) fun a s => ?_
 have hcap110 := (s.ft 101 rfl).cap
 refine qt s hR rfl (y_cutH (xs := t_) (sz := 3) (i := (t_'.toNat % ((t_).length))) s rfl rfl underlying22 rfl rfl hk14 hcap110) fun a s => ?_
 replace s := s.add 110 (slF RTypeDecl (Ap01) (((t_).take (t_'.toNat % ((t_).length))).length) (cp01) ((t_).take (t_'.toNat % ((t_).length)))) (SlR.cutH (s.ft 101 rfl) (t_'.toNat % ((t_).length)) hk14)
 refine l_take s rfl rfl (l_buildEmpty (sz := 3) s 1400 underlying22 rfl rfl rfl fun b21 a w hbb21 hK s => ?_)
 have hNb21 := NewA.lit hZ hbb21
 clear hbb21
 replace hZ := Nat.le_trans hZ hK.size; refine ⟨fun g _ h => h.grow hK, ?_⟩; clear hK
 replace s := s.add 111 (rdF RTypeDecl ([]) ([])) (RdAll.nil _ _ _)
 obtain ⟨ns23, hs23, hns23⟩ := SlR.src (s.ft 109 rfl)
 replace s := s.add 112 (rdF RTypeDecl ns23 ((t_).drop (t_'.toNat % ((t_).length)))) hns23
 refine l_take s rfl rfl (l_append (sz := 3) (by_ := 64) (N := ((t_).drop (t_'.toNat % ((t_).length))).length) (ys := ns23) s 1400 rfl rfl rfl underlying22 rfl rfl rfl rfl rfl hs23 (by first | (simp; done) | (simp; omega)) rfl (by have hr := hk15; clear hg; first | omega | (simp only [List.length_append, List.length_cons, List.length_nil] at hr ⊢; omega) | (simp at hr ⊢; omega)) (by have hr := hk15; clear hg; first | omega | (simp only [List.length_append, List.length_cons, List.length_nil] at hr ⊢; omega) | (simp at hr ⊢; omega)) rfl fun Aq22 cq22 a w hA hK s => ?_)
 have hNq22 := NewA.app hZ hNb21 hA; replace hZ := Nat.le_trans hZ hK.size; refine ⟨fun g _ h => h.app hR hK (NewA.ids hNb21), ?_⟩
 replace s := s.add 113 (rdF RTypeDecl (ns23) ((t_).drop (t_'.toNat % ((t_).length)))) (s.ft 112 rfl)
 obtain ⟨ns25, hs25, hns25⟩ := SlR.src (s.ft 110 rfl)
 replace s := s.add 114 (rdF RTypeDecl ns25 ((t_).take (t_'.toNat % ((t_).length)))) hns25
 refine l_take s rfl rfl (l_append (sz := 3) (by_ := 64) (N := (((t_).drop (t_'.toNat % ((t_).length))) ++ ((t_).take (t_'.toNat % ((t_).length)))).length) (ys := ns23 ++ ns25) s 1400 rfl rfl rfl underlying22 rfl rfl rfl rfl rfl hs25 (by first | (simp; done) | (simp; omega)) rfl (by have hr := hk18; clear hg; first | omega | (simp only [List.length_append, List.length_cons, List.length_nil] at hr ⊢; omega) | (simp at hr ⊢; omega)) (by have hr := hk18; clear hg; first | omega | (simp only [List.length_append, List.length_cons, List.length_nil] at hr ⊢; omega) | (simp at hr ⊢; omega)) rfl fun Aq24 cq24 a w hA hK s => ?_)
 have hNq24 := NewA.app hZ hNq22 hA; replace hZ := Nat.le_trans hZ hK.size; refine ⟨fun g _ h => h.app hR hK (NewA.ids hNq22), ?_⟩
 replace s := s.add 115 (rdF RTypeDecl (ns23 ++ ns25) (((t_).drop (t_'.toNat % ((t_).length))) ++ ((t_).take (t_'.toNat % ((t_).length))))) (RdAll.append (s.ft 113 rfl) (s.ft 114 rfl))
 refine l_take s rfl rfl (l_quiet s rfl rfl (y_assign s rfl) fun a s => ?_); refine ⟨fun g _ h => h, ?_⟩
 clear hR hZ
 apply pN
 apply wQ
 apply wQ
 obtain ⟨r26, hr26, hg⟩ := bind_some hg
 apply wL
 refine mv s rfl rfl fun a s => ?_
 have hT := s
 replace hT := hT.fz (R := RTypeDecl) (kk := 1400) [] 117 rfl rfl (hT.ft 115 rfl) rfl
 refine l_seq rfl (l_call (cap := []) s rfl func13 rfl (by kernel_rfl) rfl rfl (c_poset_Check n _ _ hT.lt (((t_).drop (t_'.toNat % ((t_).length))) ++ ((t_).take (t_'.toNat % ((t_).length)))) (Aq24) (cq24) (hT.ft 117 rfl) r26 hr26) fun v29 a w hK hp s => ?_)
 obtain rfl := hp
 refine qq s rfl (y_neq s rfl rfl) fun a s => ?_
 apply wN
 refine c_dec s rfl (fun hc31 => ?_) (fun hc31 => ?_)
 ·replace hg := br_t hg hc31
  apply wR
  refine asg s rfl rfl fun a s => ?_
  apply wN
  apply wp_ret
  refine p_thenR ?_
  obtain rfl := Option.some.inj hg
  refine fin1 (fn := Try.f9) s rfl (r_tmp s rfl) ?_
  exact rfl
 replace hg := br_f hg hc31
 apply wp_skip
 apply pN
 apply wQ
 obtain ⟨r32, hr32, hg⟩ := bind_some hg
 apply wL
 refine mv s rfl rfl fun a s => ?_
 refine l_seq rfl (l_call (cap := []) s rfl func15 rfl (by kernel_rfl) rfl rfl (c_poset_Order n _ _ s.lt t_ (Ap01) (cp01) (s.ft 101 rfl) r32 hr32) fun v35 a w hK hp s => ?_)
 obtain ⟨Au36a1, cu36a1, rfl, hu36a1⟩ := hp
 replace s := s.ns 119 hu36a1
 refine mv s rfl rfl fun a s => ?_
 refine qq s rfl (y_extract s rfl rfl) fun a s => ?_
 refine qq s rfl (y_extract s rfl rfl) fun a s => ?_
 refine asg s rfl rfl fun a s => ?_
 refine asg s rfl rfl fun a s => ?_
 apply wN
 apply wQ
 obtain ⟨r37, hr37, hg⟩ := bind_some hg
 apply wL
 refine mv s rfl rfl fun a s => ?_
 replace s := s.freeze (R := RTypeDecl) (kk := 1400) (L' := []) 122 rfl rfl (s.ft 115 rfl) trivial rfl
 refine l_seq rfl (l_call (cap := []) s rfl func15 rfl (by kernel_rfl) rfl rfl (c_poset_Order n _ _ s.lt (((t_).drop (t_'.toNat % ((t_).length))) ++ ((t_).take (t_'.toNat % ((t_).length)))) (Aq24) (cq24) (s.ft 122 rfl) r37 hr37) fun v40 a w hK hp s => ?_)
 obtain ⟨Au41a1, cu41a1, rfl, hu41a1⟩ := hp
 replace s := s.ns 123 hu41a1
 refine mv s rfl rfl fun a s => ?_
 refine qq s rfl (y_extract s rfl rfl) fun a s => ?_
 refine qq s rfl (y_extract s rfl rfl) fun a s => ?_
 refine asg s rfl rfl fun a s => ?_
 refine asg s rfl rfl fun a s => ?_
 apply wN
 apply wQ
 apply wQ
 obtain ⟨r42, hr42, hg⟩ := bind_some hg
 apply wL
 refine mv s rfl rfl fun a s => ?_
 refine mv s rfl rfl fun a s => ?_
 refine l_seq rfl (l_call (cap := []) s rfl func17 rfl (by kernel_rfl) rfl rfl (c_r03_SameStrings n _ _ s.lt r32.1 (Au36a1) (cu36a1) (s.ft 119 rfl) r37.1 (Au41a1) (cu41a1) (s.ft 123 rfl) r42 hr42) fun v45 a w hK hp s => ?_)
 obtain rfl := hp
 refine qq s rfl (y_not s rfl) fun a s => ?_
 apply wN
 refine c_cond s rfl (fun hc47 => ?_) (fun hc47 => ?_)
 ·replace hg := br_t hg hc47
  apply wR
  refine asg s rfl rfl fun a s => ?_
  apply wN
  apply wp_ret
  refine p_thenR ?_
  obtain rfl := Option.some.inj hg
  refine fin1 (fn := Try.f9) s rfl (r_tmp s rfl) ?_
  exact rfl
 replace hg := br_n hg hc47
 apply wp_skip
 apply pN
 apply wQ
 apply wR
 refine mv s rfl rfl fun a s => ?_
 refine qq s rfl (y_lenSlice s rfl underlying22) fun a s => ?_
 refine mv s rfl rfl fun a s => ?_
 apply wN
 obtain ⟨k48, hg, hk48⟩ := jn_some hg
 refine c_post (fun a w => k48 = some r ∧ St (⟨Try.f9.ntmps, M, noB, w0⟩ : Ctx) [] [] [] a w) ?_ ?_
 ·apply wp_block
  refine c_loop (σ := Nat) (fun m1 a w => ∃ (t_49 : Nat), law03_PosetTurns_L0 n t_ t_' k48 m1 t_49 = some r ∧ St (⟨Try.f9.ntmps, M, noB, w0⟩ : Ctx) [(0, sl Ap01 (t_) cp01), (6, sl Aq24 (((t_).drop (t_'.toNat % ((t_).length))) ++ ((t_).take (t_'.toNat % ((t_).length)))) cq24), (48, vI ((((t_).length : Nat) : Int))), (49, vI (((t_49 : Nat) : Int)))] [] [(101, slF RTypeDecl (Ap01) ((t_).length) (cp01) (t_)), (122, slF RTypeDecl (Aq24) ((((t_).drop (t_'.toNat % ((t_).length))) ++ ((t_).take (t_'.toNat % ((t_).length)))).length) (cq24) (((t_).drop (t_'.toNat % ((t_).length))) ++ ((t_).take (t_'.toNat % ((t_).length)))))] a w) (fun m1 => m1) n ⟨(0), hg, (s.sb rfl rfl rfl)⟩ ?_
  clear s a; rintro m1 a w ⟨t_49, hg, s⟩
  rcases m1 with _ | m1
  ·rw [law03_PosetTurns_L0] at hg; cases hg
  rw [law03_PosetTurns_L0] at hg
  apply wR
  refine qq s rfl (y_lssN (i := t_49) (j := ((t_).length)) s rfl rfl) fun a s => ?_
  apply wN
  apply wQ
  refine c_dec s rfl (fun hc50 => ?_) (fun hc50 => ?_)
  ·replace hg := br_t hg hc50
   have hmx51 := SlR.mx (s.ft 101 rfl)
   apply wp_skip
   apply pN
   apply wQ
   apply wp_block
   apply wR
   refine mv s rfl rfl fun a s => ?_
   refine asg s rfl rfl fun a s => ?_
   apply wN
   apply wQ
   obtain ⟨k52, hg, hk52⟩ := jn_some hg
   refine c_post (fun a w => ∃ (t_53 : Bool), k52 t_53 = some r ∧ St (⟨Try.f9.ntmps, M, noB, w0⟩ : Ctx) [(0, sl Ap01 (t_) cp01), (6, sl Aq24 (((t_).drop (t_'.toNat % ((t_).length))) ++ ((t_).take (t_'.toNat % ((t_).length)))) cq24), (48, vI ((((t_).length : Nat) : Int))), (49, vI (((t_49 : Nat) : Int))), (85, .bool (t_53))] [] [(101, slF RTypeDecl (Ap01) ((t_).length) (cp01) (t_)), (122, slF RTypeDecl (Aq24) ((((t_).drop (t_'.toNat % ((t_).length))) ++ ((t_).take (t_'.toNat % ((t_).length)))).length) (cq24) (((t_).drop (t_'.toNat % ((t_).length))) ++ ((t_).take (t_'.toNat % ((t_).length)))))] a w) ?_ ?_
   ·obtain ⟨x55, hx55, hg⟩ := bind_some hg
    obtain ⟨r57, hr57, hg⟩ := bind_some hg
    obtain ⟨r62, hr62, hg⟩ := bind_some hg
    obtain ⟨r65, hr65, hg⟩ := bind_some hg
    rcases Bool.eq_false_or_eq_true (!(r65)) with hs68 | hs68
    ·replace hg := br_t hg hs68
     refine d_steps s [] rfl ?_; clear s; intro wr hZ s; have hR := s.wd; have hE := Ext.init hR 0
     refine n_q 0 0 s hR rfl (by kernel_rfl) (by kernel_rfl) (by kernel_rfl) rfl rfl rfl (y_move s rfl) fun a s => ?_
     refine n_q 1 0 s hR rfl (by kernel_rfl) (by kernel_rfl) (by kernel_rfl) rfl rfl rfl (y_move s rfl) fun a s => ?_
     refine n_q 2 0 s hR rfl (by kernel_rfl) (by kernel_rfl) (by kernel_rfl) rfl rfl rfl (y_move s rfl) fun a s => ?_
     obtain ⟨p69, hep69, hpp69⟩ := SlR.elemX (s.ft 101 rfl) hx55
     refine n_q 3 0 s hR rfl (by kernel_rfl) (by kernel_rfl) (by kernel_rfl) rfl rfl rfl (y_elem (sz := 3) (i := t_49) s rfl rfl underlying22 rfl hep69 rfl (lt_of_get hx55)) fun a s => ?_
     refine n_q 4 0 s hR rfl (by kernel_rfl) (by kernel_rfl) (by kernel_rfl) rfl rfl rfl (y_ptrField (o' := 0) s rfl underlying40 rfl rfl rfl) fun a s => ?_
     obtain ⟨hlq70, hmq70, csq70, hdq70, hcq70⟩ := (SlR.again (s.ft 101 rfl) hx55 hep69)
     obtain ⟨Aq702, cq702, Aq703, cq703, rfl, lq701, hq702, hq703⟩ := RTypeDecl.open hdq70
     replace s := s.ns 130 hq702
     replace s := s.ns 131 hq703
     refine n_q 5 0 s hR rfl (by kernel_rfl) (by kernel_rfl) (by kernel_rfl) rfl rfl rfl (y_ldp1 s rfl hlq70 hmq70 (hcq70 0 _ rfl) underlying9 rfl) fun a s => ?_
     refine n_q 7 0 s hR rfl (by kernel_rfl) (by kernel_rfl) (by kernel_rfl) rfl rfl rfl (y_move s rfl) fun a s => ?_
     refine n_q 8 0 s hR rfl (by kernel_rfl) (by kernel_rfl) (by kernel_rfl) rfl rfl rfl (y_move s rfl) fun a s => ?_
     refine n_q 9 0 s hR rfl (by kernel_rfl) (by kernel_rfl) (by kernel_rfl) rfl rfl rfl (y_move s rfl) fun a s => ?_
     obtain ⟨p71, hep71, hpp71⟩ := SlR.elemX (s.ft 101 rfl) hx55
     refine n_q 10 0 s hR rfl (by kernel_rfl) (by kernel_rfl) (by kernel_rfl) rfl rfl rfl (y_elem (sz := 3) (i := t_49) s rfl rfl underlying22 rfl hep71 rfl (lt_of_get hx55)) fun a s => ?_
     refine n_q 11 0 s hR rfl (by kernel_rfl) (by kernel_rfl) (by kernel_rfl) rfl rfl rfl (y_ptrField (o' := 0) s rfl underlying40 rfl rfl rfl) fun a s => ?_
     obtain ⟨hlq72, hmq72, csq72, hdq72, hcq72⟩ := (SlR.again (s.ft 101 rfl) hx55 hep71)
     obtain ⟨Aq722, cq722, Aq723, cq723, rfl, lq721, hq722, hq723⟩ := RTypeDecl.open hdq72
     replace s := s.ns 132 hq722
     replace s := s.ns 133 hq723
     refine n_q 12 0 s hR rfl (by kernel_rfl) (by kernel_rfl) (by kernel_rfl) rfl rfl rfl (y_ldp1 s rfl hlq72 hmq72 (hcq72 0 _ rfl) underlying9 rfl) fun a s => ?_
     refine n_1 6 s (by kernel_rfl) rfl rfl (l_call (cap := []) s rfl func20 rfl (by kernel_rfl) rfl rfl (c_poset_Above n _ _ s.lt t_ (Ap01) (cp01) (s.ft 101 rfl) x55.Name (by omega) r57 hr57) fun v73 a w hK hp s => ?_)
     replace hE := hE.grow hK; replace hZ := Nat.le_trans hZ hK.size; refine ⟨fun g _ h => h.grow hK, ?_⟩; clear hK
     obtain ⟨Au74a1, cu74a1, rfl, hu74a1⟩ := hp
     replace s := s.ns 134 hu74a1
     refine n_1 13 s (by kernel_rfl) rfl rfl (l_call (cap := []) s rfl func20 rfl (by kernel_rfl) rfl rfl (c_poset_Above n _ _ s.lt (((t_).drop (t_'.toNat % ((t_).length))) ++ ((t_).take (t_'.toNat % ((t_).length)))) (Aq24) (cq24) (s.ft 122 rfl) x55.Name (by omega) r62 hr62) fun v75 a w hK hp s => ?_)
     replace hE := hE.grow hK; replace hZ := Nat.le_trans hZ hK.size; refine ⟨fun g _ h => h.grow hK, ?_⟩; clear hK
     obtain ⟨Au76a1, cu76a1, rfl, hu76a1⟩ := hp
     replace s := s.ns 135 hu76a1
     refine n_1 14 s (by kernel_rfl) rfl rfl (l_call (cap := []) s rfl func17 rfl (by kernel_rfl) rfl rfl (c_r03_SameStrings n _ _ s.lt r57 (Au74a1) (cu74a1) (s.ft 134 rfl) r62 (Au76a1) (cu76a1) (s.ft 135 rfl) r65 hr65) fun v77 a w hK hp s => ?_)
     replace hE := hE.grow hK; replace hZ := Nat.le_trans hZ hK.size; refine ⟨fun g _ h => h.grow hK, ?_⟩; clear hK
     obtain rfl := hp
     refine n_1 15 s (by kernel_rfl) rfl rfl (l_quiet s rfl rfl (yl_b (y_not s rfl) hs68) fun a s => ?_); refine ⟨fun g _ h => h, ?_⟩
     refine n_1 16 s (by kernel_rfl) rfl rfl (l_quiet s rfl rfl (y_move s rfl) fun a s => ?_); refine ⟨fun g _ h => h, ?_⟩
     refine n_qlpass 17 s hE rfl (by kernel_rfl) (by kernel_rfl) (by kernel_rfl) rfl ⟨_, _, _, rfl, rfl, rfl, rfl⟩ rfl fun a s => ?_
     refine n_qlpass 18 s hE rfl (by kernel_rfl) (by kernel_rfl) (by kernel_rfl) rfl ⟨_, _, _, rfl, rfl, rfl, rfl⟩ rfl fun a s => ?_
     refine n_qlpass 19 s hE rfl (by kernel_rfl) (by kernel_rfl) (by kernel_rfl) rfl ⟨_, _, _, rfl, rfl, rfl, rfl⟩ rfl fun a s => ?_
     refine n_qlpass 20 s hE rfl (by kernel_rfl) (by kernel_rfl) (by kernel_rfl) rfl ⟨_, _, _, rfl, rfl, rfl, rfl⟩ rfl fun a s => ?_
     refine n_qlpass 21 s hE rfl (by kernel_rfl) (by kernel_rfl) (by kernel_rfl) rfl ⟨_, _, _, rfl, rfl, rfl, rfl⟩ rfl fun a s => ?_
     refine n_qlpass 22 s hE rfl (by kernel_rfl) (by kernel_rfl) (by kernel_rfl) rfl ⟨_, _, _, rfl, rfl, rfl, rfl⟩ rfl fun a s => ?_
     refine n_qlpass 23 s hE rfl (by kernel_rfl) (by kernel_rfl) (by kernel_rfl) rfl ⟨_, _, _, rfl, rfl, rfl, rfl⟩ rfl fun a s => ?_
     refine n_qlpass 24 s hE rfl (by kernel_rfl) (by kernel_rfl) (by kernel_rfl) rfl ⟨_, _, _, rfl, rfl, rfl, rfl⟩ rfl fun a s => ?_
     refine n_qlpass 25 s hE rfl (by kernel_rfl) (by kernel_rfl) (by kernel_rfl) rfl ⟨_, _, _, rfl, rfl, rfl, rfl⟩ rfl fun a s => ?_
     refine n_pass 26 s (by kernel_rfl) rfl ⟨_, _, _, rfl, rfl, rfl, rfl⟩ rfl rfl fun a s => ?_
     refine n_pass 27 s (by kernel_rfl) rfl ⟨_, _, _, rfl, rfl, rfl, rfl⟩ rfl rfl fun a s => ?_
     refine n_pass 28 s (by kernel_rfl) rfl ⟨_, _, _, rfl, rfl, rfl, rfl⟩ rfl rfl fun a s => ?_
     refine n_pass 29 s (by kernel_rfl) rfl ⟨_, _, _, rfl, rfl, rfl, rfl⟩ rfl rfl fun a s => ?_
     refine n_pass 30 s (by kernel_rfl) rfl ⟨_, _, _, rfl, rfl, rfl, rfl⟩ rfl rfl fun a s => ?_
     refine n_pass 31 s (by kernel_rfl) rfl ⟨_, _, _, rfl, rfl, rfl, rfl⟩ rfl rfl fun a s => ?_
     refine n_pass 32 s (by kernel_rfl) rfl ⟨_, _, _, rfl, rfl, rfl, rfl⟩ rfl rfl fun a s => ?_
     refine n_1 33 s (by kernel_rfl) rfl rfl (l_quiet s rfl rfl (y_pick_t s rfl rfl) fun a s => ?_); refine ⟨fun g _ h => h, ?_⟩
     refine n_end (by kernel_rfl) ?_; clear hR hZ hE
     apply pN
     exact ⟨(true), hg, (s.sb rfl rfl rfl)⟩
    replace hg := br_n hg hs68
    obtain ⟨r81, hr81, hg⟩ := bind_some hg
    obtain ⟨r86, hr86, hg⟩ := bind_some hg
    obtain ⟨r89, hr89, hg⟩ := bind_some hg
    refine d_steps s [] rfl ?_; clear s; intro wr hZ s; have hR := s.wd; have hE := Ext.init hR 0
    refine n_q 0 0 s hR rfl (by kernel_rfl) (by kernel_rfl) (by kernel_rfl) rfl rfl rfl (y_move s rfl) fun a s => ?_
    refine n_q 1 0 s hR rfl (by kernel_rfl) (by kernel_rfl) (by kernel_rfl) rfl rfl rfl (y_move s rfl) fun a s => ?_
    refine n_q 2 0 s hR rfl (by kernel_rfl) (by kernel_rfl) (by kernel_rfl) rfl rfl rfl (y_move s rfl) fun a s => ?_
    obtain ⟨p92, hep92, hpp92⟩ := SlR.elemX (s.ft 101 rfl) hx55
    refine n_q 3 0 s hR rfl (by kernel_rfl) (by kernel_rfl) (by kernel_rfl) rfl rfl rfl (y_elem (sz := 3) (i := t_49) s rfl rfl underlying22 rfl hep92 rfl (lt_of_get hx55)) fun a s => ?_
    refine n_q 4 0 s hR rfl (by kernel_rfl) (by kernel_rfl) (by kernel_rfl) rfl rfl rfl (y_ptrField (o' := 0) s rfl underlying40 rfl rfl rfl) fun a s => ?_
    obtain ⟨hlq93, hmq93, csq93, hdq93, hcq93⟩ := (SlR.again (s.ft 101 rfl) hx55 hep92)
    obtain ⟨Aq932, cq932, Aq933, cq933, rfl, lq931, hq932, hq933⟩ := RTypeDecl.open hdq93
    replace s := s.ns 142 hq932
    replace s := s.ns 143 hq933
    refine n_q 5 0 s hR rfl (by kernel_rfl) (by kernel_rfl) (by kernel_rfl) rfl rfl rfl (y_ldp1 s rfl hlq93 hmq93 (hcq93 0 _ rfl) underlying9 rfl) fun a s => ?_
    refine n_q 7 0 s hR rfl (by kernel_rfl) (by kernel_rfl) (by kernel_rfl) rfl rfl rfl (y_move s rfl) fun a s => ?_
    refine n_q 8 0 s hR rfl (by kernel_rfl) (by kernel_rfl) (by kernel_rfl) rfl rfl rfl (y_move s rfl) fun a s => ?_
    refine n_q 9 0 s hR rfl (by kernel_rfl) (by kernel_rfl) (by kernel_rfl) rfl rfl rfl (y_move s rfl) fun a s => ?_
    obtain ⟨p94, hep94, hpp94⟩ := SlR.elemX (s.ft 101 rfl) hx55
    refine n_q 10 0 s hR rfl (by kernel_rfl) (by kernel_rfl) (by kernel_rfl) rfl rfl rfl (y_elem (sz := 3) (i := t_49) s rfl rfl underlying22 rfl hep94 rfl (lt_of_get hx55)) fun a s => ?_
    refine n_q 11 0 s hR rfl (by kernel_rfl) (by kernel_rfl) (by kernel_rfl) rfl rfl rfl (y_ptrField (o' := 0) s rfl underlying40 rfl rfl rfl) fun a s => ?_
    obtain ⟨hlq95, hmq95, csq95, hdq95, hcq95⟩ := (SlR.again (s.ft 101 rfl) hx55 hep94)
    obtain ⟨Aq952, cq952, Aq953, cq953, rfl, lq951, hq952, hq953⟩ := RTypeDecl.open hdq95
    replace s := s.ns 144 hq952
    replace s := s.ns 145 hq953
    refine n_q 12 0 s hR rfl (by kernel_rfl) (by kernel_rfl) (by kernel_rfl) rfl rfl rfl (y_ldp1 s rfl hlq95 hmq95 (hcq95 0 _ rfl) underlying9 rfl) fun a s => ?_
    refine n_1 6 s (by kernel_rfl) rfl rfl (l_call (cap := []) s rfl func20 rfl (by kernel_rfl) rfl rfl (c_poset_Above n _ _ s.lt t_ (Ap01) (cp01) (s.ft 101 rfl) x55.Name (by omega) r57 hr57) fun v96 a w hK hp s => ?_)
    replace hE := hE.grow hK; replace hZ := Nat.le_trans hZ hK.size; refine ⟨fun g _ h => h.grow hK, ?_⟩; clear hK
    obtain ⟨Au97a1, cu97a1, rfl, hu97a1⟩ := hp
    replace s := s.ns 146 hu97a1
    refine n_1 13 s (by kernel_rfl) rfl rfl (l_call (cap := []) s rfl func20 rfl (by kernel_rfl) rfl rfl (c_poset_Above n _ _ s.lt (((t_).drop (t_'.toNat % ((t_).length))) ++ ((t_).take (t_'.toNat % ((t_).length)))) (Aq24) (cq24) (s.ft 122 rfl) x55.Name (by omega) r62 hr62) fun v98 a w hK hp s => ?_)
    replace hE := hE.grow hK; replace hZ := Nat.le_trans hZ hK.size; refine ⟨fun g _ h => h.grow hK, ?_⟩; clear hK
    obtain ⟨Au99a1, cu99a1, rfl, hu99a1⟩ := hp
    replace s := s.ns 147 hu99a1
    refine n_1 14 s (by kernel_rfl) rfl rfl (l_call (cap := []) s rfl func17 rfl (by kernel_rfl) rfl rfl (c_r03_SameStrings n _ _ s.lt r57 (Au97a1) (cu97a1) (s.ft 146 rfl) r62 (Au99a1) (cu99a1) (s.ft 147 rfl) r65 hr65) fun v100 a w hK hp s => ?_)
    replace hE := hE.grow hK; replace hZ := Nat.le_trans hZ hK.size; refine ⟨fun g _ h => h.grow hK, ?_⟩; clear hK
    obtain rfl := hp
    refine n_1 15 s (by kernel_rfl) rfl rfl (l_quiet s rfl rfl (yl_b (y_not s rfl) hs68) fun a s => ?_); refine ⟨fun g _ h => h, ?_⟩
    refine n_1 16 s (by kernel_rfl) rfl rfl (l_quiet s rfl rfl (y_move s rfl) fun a s => ?_); refine ⟨fun g _ h => h, ?_⟩
    refine n_ql 17 s hE rfl (by kernel_rfl) (by kernel_rfl) (by kernel_rfl) rfl ⟨_, _, _, rfl, rfl, rfl, rfl⟩ rfl (fun w' s => y_move s rfl) fun a s => ?_
    refine n_ql 18 s hE rfl (by kernel_rfl) (by kernel_rfl) (by kernel_rfl) rfl ⟨_, _, _, rfl, rfl, rfl, rfl⟩ rfl (fun w' s => y_move s rfl) fun a s => ?_
    refine n_ql 19 s hE rfl (by kernel_rfl) (by kernel_rfl) (by kernel_rfl) rfl ⟨_, _, _, rfl, rfl, rfl, rfl⟩ rfl (fun w' s => y_move s rfl) fun a s => ?_
    obtain ⟨p102, hep102, hpp102⟩ := SlR.elemX (s.ft 101 rfl) hx55
    refine n_ql 20 s hE rfl (by kernel_rfl) (by kernel_rfl) (by kernel_rfl) rfl ⟨_, _, _, rfl, rfl, rfl, rfl⟩ rfl (fun w' s => y_elem (sz := 3) (i := t_49) s rfl rfl underlying22 rfl hep102 rfl (lt_of_get hx55)) fun a s => ?_
    refine n_ql 24 s hE rfl (by kernel_rfl) (by kernel_rfl) (by kernel_rfl) rfl ⟨_, _, _, rfl, rfl, rfl, rfl⟩ rfl (fun w' s => y_move s rfl) fun a s => ?_
    refine n_ql 25 s hE rfl (by kernel_rfl) (by kernel_rfl) (by kernel_rfl) rfl ⟨_, _, _, rfl, rfl, rfl, rfl⟩ rfl (fun w' s => y_move s rfl) fun a s => ?_
    refine n_ql 26 s hE rfl (by kernel_rfl) (by kernel_rfl) (by kernel_rfl) rfl ⟨_, _, _, rfl, rfl, rfl, rfl⟩ rfl (fun w' s => y_move s rfl) fun a s => ?_
    obtain ⟨p103, hep103, hpp103⟩ := SlR.elemX (s.ft 101 rfl) hx55
    refine n_ql 27 s hE rfl (by kernel_rfl) (by kernel_rfl) (by kernel_rfl) rfl ⟨_, _, _, rfl, rfl, rfl, rfl⟩ rfl (fun w' s => y_elem (sz := 3) (i := t_49) s rfl rfl underlying22 rfl hep103 rfl (lt_of_get hx55)) fun a s => ?_
    refine n_2 21 28 s (by kernel_rfl) rfl ⟨_, _, _, rfl, rfl, rfl, rfl⟩ rfl ⟨_, _, _, rfl, rfl, rfl, rfl⟩ ?_ ?_
    ·refine l_quiet s rfl rfl (y_ptrField (o' := 0) s rfl underlying40 rfl rfl rfl) fun a s => ?_; refine ⟨fun g _ h => h, ?_⟩
     refine n_2 22 28 s (by kernel_rfl) rfl ⟨_, _, _, rfl, rfl, rfl, rfl⟩ rfl ⟨_, _, _, rfl, rfl, rfl, rfl⟩ ?_ ?_
     ·obtain ⟨hlq104, hmq104, csq104, hdq104, hcq104⟩ := (SlR.again (s.ft 101 rfl) hx55 hep102)
      obtain ⟨Aq1042, cq1042, Aq1043, cq1043, rfl, lq1041, hq1042, hq1043⟩ := RTypeDecl.open hdq104
      replace s := s.ns 148 hq1042
      replace s := s.ns 149 hq1043
      refine l_quiet s rfl rfl (y_ldp1 s rfl hlq104 hmq104 (hcq104 0 _ rfl) underlying9 rfl) fun a s => ?_; refine ⟨fun g _ h => h, ?_⟩
      refine n_2 23 28 s (by kernel_rfl) rfl ⟨_, _, _, rfl, rfl, rfl, rfl⟩ rfl ⟨_, _, _, rfl, rfl, rfl, rfl⟩ ?_ ?_
      ·refine l_call (cap := []) s rfl func22 rfl (by kernel_rfl) rfl rfl (c_poset_Below n _ _ s.lt t_ (Ap01) (cp01) (s.ft 101 rfl) x55.Name (by omega) r81 hr81) fun v105 a w hK hp s => ?_
       replace hE := hE.grow hK; replace hZ := Nat.le_trans hZ hK.size; refine ⟨fun g _ h => h.grow hK, ?_⟩; clear hK
       obtain ⟨Au106a1, cu106a1, rfl, hu106a1⟩ := hp
       replace s := s.ns 150 hu106a1
       refine n_1 28 s (by kernel_rfl) rfl ⟨_, _, _, rfl, rfl, rfl, rfl⟩ (l_quiet s rfl rfl (y_ptrField (o' := 0) s rfl underlying40 rfl rfl rfl) fun a s => ?_); refine ⟨fun g _ h => h, ?_⟩
       obtain ⟨hlq107, hmq107, csq107, hdq107, hcq107⟩ := (SlR.again (s.ft 101 rfl) hx55 hep103)
       obtain ⟨Aq1072, cq1072, Aq1073, cq1073, rfl, lq1071, hq1072, hq1073⟩ := RTypeDecl.open hdq107
       replace s := s.ns 151 hq1072
       replace s := s.ns 152 hq1073
       refine n_1 29 s (by kernel_rfl) rfl ⟨_, _, _, rfl, rfl, rfl, rfl⟩ (l_quiet s rfl rfl (y_ldp1 s rfl hlq107 hmq107 (hcq107 0 _ rfl) underlying9 rfl) fun a s => ?_); refine ⟨fun g _ h => h, ?_⟩
       refine n_1 30 s (by kernel_rfl) rfl ⟨_, _, _, rfl, rfl, rfl, rfl⟩ (l_call (cap := []) s rfl func22 rfl (by kernel_rfl) rfl rfl (c_poset_Below n _ _ s.lt (((t_).drop (t_'.toNat % ((t_).length))) ++ ((t_).take (t_'.toNat % ((t_).length)))) (Aq24) (cq24) (s.ft 122 rfl) x55.Name (by omega) r86 hr86) fun v108 a w hK hp s => ?_)
       replace hE := hE.grow hK; replace hZ := Nat.le_trans hZ hK.size; refine ⟨fun g _ h => h.grow hK, ?_⟩; clear hK
       obtain ⟨Au109a1, cu109a1, rfl, hu109a1⟩ := hp
       replace s := s.ns 153 hu109a1
       refine n_1 31 s (by kernel_rfl) rfl ⟨_, _, _, rfl, rfl, rfl, rfl⟩ (l_call (cap := []) s rfl func17 rfl (by kernel_rfl) rfl rfl (c_r03_SameStrings n _ _ s.lt r81 (Au106a1) (cu106a1) (s.ft 150 rfl) r86 (Au109a1) (cu109a1) (s.ft 153 rfl) r89 hr89) fun v110 a w hK hp s => ?_)
       replace hE := hE.grow hK; replace hZ := Nat.le_trans hZ hK.size; refine ⟨fun g _ h => h.grow hK, ?_⟩; clear hK
       obtain rfl := hp
       refine n_1 32 s (by kernel_rfl) rfl ⟨_, _, _, rfl, rfl, rfl, rfl⟩ (l_quiet s rfl rfl (y_not s rfl) fun a s => ?_); refine ⟨fun g _ h => h, ?_⟩
       refine n_1 33 s (by kernel_rfl) rfl rfl (l_quiet s rfl rfl (y_pick_f s rfl rfl) fun a s => ?_); refine ⟨fun g _ h => h, ?_⟩
       refine n_end (by kernel_rfl) ?_; clear hR hZ hE
       apply pN
       exact ⟨(!(r89)), hg, (s.sb rfl rfl rfl)⟩
      ·refine l_quiet s rfl rfl (y_ptrField (o' := 0) s rfl underlying40 rfl rfl rfl) fun a s => ?_; refine ⟨fun g _ h => h, ?_⟩
       refine n_2 23 29 s (by kernel_rfl) rfl ⟨_, _, _, rfl, rfl, rfl, rfl⟩ rfl ⟨_, _, _, rfl, rfl, rfl, rfl⟩ ?_ ?_
       ·refine l_call (cap := []) s rfl func22 rfl (by kernel_rfl) rfl rfl (c_poset_Below n _ _ s.lt t_ (Ap01) (cp01) (s.ft 101 rfl) x55.Name (by omega) r81 hr81) fun v112 a w hK hp s => ?_
        replace hE := hE.grow hK; replace hZ := Nat.le_trans hZ hK.size; refine ⟨fun g _ h => h.grow hK, ?_⟩; clear hK
        obtain ⟨Au113a1, cu113a1, rfl, hu113a1⟩ := hp
        replace s := s.ns 154 hu113a1
        obtain ⟨hlq114, hmq114, csq114, hdq114, hcq114⟩ := (SlR.again (s.ft 101 rfl) hx55 hep103)
        obtain ⟨Aq1142, cq1142, Aq1143, cq1143, rfl, lq1141, hq1142, hq1143⟩ := RTypeDecl.open hdq114
        replace s := s.ns 155 hq1142
        replace s := s.ns 156 hq1143
        refine n_1 29 s (by kernel_rfl) rfl ⟨_, _, _, rfl, rfl, rfl, rfl⟩ (l_quiet s rfl rfl (y_ldp1 s rfl hlq114 hmq114 (hcq114 0 _ rfl) underlying9 rfl) fun a s => ?_); refine ⟨fun g _ h => h, ?_⟩
        refine n_1 30 s (by kernel_rfl) rfl ⟨_, _, _, rfl, rfl, rfl, rfl⟩ (l_call (cap := []) s rfl func22 rfl (by kernel_rfl) rfl rfl (c_poset_Below n _ _ s.lt (((t_).drop (t_'.toNat % ((t_).length))) ++ ((t_).take (t_'.toNat % ((t_).length)))) (Aq24) (cq24) (s.ft 122 rfl) x55.Name (by omega) r86 hr86) fun v115 a w hK hp s => ?_)
        replace hE := hE.grow hK; replace hZ := Nat.le_trans hZ hK.size; refine ⟨fun g _ h => h.grow hK, ?_⟩; clear hK
        obtain ⟨Au116a1, cu116a1, rfl, hu116a1⟩ := hp
        replace s := s.ns 157 hu116a1
        refine n_1 31 s (by kernel_rfl) rfl ⟨_, _, _, rfl, rfl, rfl, rfl⟩ (l_call (cap := []) s rfl func17 rfl (by kernel_rfl) rfl rfl (c_r03_SameStrings n _ _ s.lt r81 (Au113a1) (cu113a1) (s.ft 154 rfl) r86 (Au116a1) (cu116a1) (s.ft 157 rfl) r89 hr89) fun v117 a w hK hp s => ?_)
        replace hE := hE.grow hK; replace hZ := Nat.le_trans hZ hK.size; refine ⟨fun g _ h => h.grow hK, ?_⟩; clear hK
        obtain rfl := hp
        refine n_1 32 s (by kernel_rfl) rfl ⟨_, _, _, rfl, rfl, rfl, rfl⟩ (l_quiet s rfl rfl (y_not s rfl) fun a s => ?_); refine ⟨fun g _ h => h, ?_⟩
        refine n_1 33 s (by kernel_rfl) rfl rfl (l_quiet s rfl rfl (y_pick_f s rfl rfl) fun a s => ?_); refine ⟨fun g _ h => h, ?_⟩
        refine n_end (by kernel_rfl) ?_; clear hR hZ hE
        apply pN
        exact ⟨(!(r89)), hg, (s.sb rfl rfl rfl)⟩
       ·obtain ⟨hlq119, hmq119, csq119, hdq119, hcq119⟩ := (SlR.again (s.ft 101 rfl) hx55 hep103)
        obtain ⟨Aq1192, cq1192, Aq1193, cq1193, rfl, lq1191, hq1192, hq1193⟩ := RTypeDecl.open hdq119
        replace s := s.ns 158 hq1192
        replace s := s.ns 159 hq1193
        refine l_quiet s rfl rfl (y_ldp1 s rfl hlq119 hmq119 (hcq119 0 _ rfl) underlying9 rfl) fun a s => ?_; refine ⟨fun g _ h => h, ?_⟩
        refine n_1 23 s (by kernel_rfl) rfl ⟨_, _, _, rfl, rfl, rfl, rfl⟩ (l_call (cap := []) s rfl func22 rfl (by kernel_rfl) rfl rfl (c_poset_Below n _ _ s.lt t_ (Ap01) (cp01) (s.ft 101 rfl) x55.Name (by omega) r81 hr81) fun v120 a w hK hp s => ?_)
        replace hE := hE.grow hK; replace hZ := Nat.le_trans hZ hK.size; refine ⟨fun g _ h => h.grow hK, ?_⟩; clear hK
        obtain ⟨Au121a1, cu121a1, rfl, hu121a1⟩ := hp
        replace s := s.ns 160 hu121a1
        refine n_1 30 s (by kernel_rfl) rfl ⟨_, _, _, rfl, rfl, rfl, rfl⟩ (l_call (cap := []) s rfl func22 rfl (by kernel_rfl) rfl rfl (c_poset_Below n _ _ s.lt (((t_).drop (t_'.toNat % ((t_).length))) ++ ((t_).take (t_'.toNat % ((t_).length)))) (Aq24) (cq24) (s.ft 122 rfl) x55.Name (by omega) r86 hr86) fun v122 a w hK hp s => ?_)
        replace hE := hE.grow hK; replace hZ := Nat.le_trans hZ hK.size; refine ⟨fun g _ h => h.grow hK, ?_⟩; clear hK
        obtain ⟨Au123a1, cu123a1, rfl, hu123a1⟩ := hp
        replace s := s.ns 161 hu123a1
        refine n_1 31 s (by kernel_rfl) rfl ⟨_, _, _, rfl, rfl, rfl, rfl⟩ (l_call (cap := []) s rfl func17 rfl (by kernel_rfl) rfl rfl (c_r03_SameStrings n _ _ s.lt r81 (Au121a1) (cu121a1) (s.ft 160 rfl) r86 (Au123a1) (cu123a1) (s.ft 161 rfl) r89 hr89) fun v124 a w hK hp s => ?_)
        replace hE := hE.grow hK; replace hZ := Nat.le_trans hZ hK.size; refine ⟨fun g _ h => h.grow hK, ?_⟩; clear hK
        obtain rfl := hp
        refine n_1 32 s (by kernel_rfl) rfl ⟨_, _, _, rfl, rfl, rfl, rfl⟩ (l_quiet s rfl rfl (y_not s rfl) fun a s => ?_); refine ⟨fun g _ h => h, ?_⟩
        refine n_1 33 s (by kernel_rfl) rfl rfl (l_quiet s rfl rfl (y_pick_f s rfl rfl) fun a s => ?_); refine ⟨fun g _ h => h, ?_⟩
        refine n_end (by kernel_rfl) ?_; clear hR hZ hE
        apply pN
        exact ⟨(!(r89)), hg, (s.sb rfl rfl rfl)⟩
     ·refine l_quiet s rfl rfl (y_ptrField (o' := 0) s rfl underlying40 rfl rfl rfl) fun a s => ?_; refine ⟨fun g _ h => h, ?_⟩
      refine n_2 22 29 s (by kernel_rfl) rfl ⟨_, _, _, rfl, rfl, rfl, rfl⟩ rfl ⟨_, _, _, rfl, rfl, rfl, rfl⟩ ?_ ?_
      ·obtain ⟨hlq126, hmq126, csq126, hdq126, hcq126⟩ := (SlR.again (s.ft 101 rfl) hx55 hep102)
       obtain ⟨Aq1262, cq1262, Aq1263, cq1263, rfl, lq1261, hq1262, hq1263⟩ := RTypeDecl.open hdq126
       replace s := s.ns 162 hq1262
       replace s := s.ns 163 hq1263
       refine l_quiet s rfl rfl (y_ldp1 s rfl hlq126 hmq126 (hcq126 0 _ rfl) underlying9 rfl) fun a s => ?_; refine ⟨fun g _ h => h, ?_⟩
       refine n_2 23 29 s (by kernel_rfl) rfl ⟨_, _, _, rfl, rfl, rfl, rfl⟩ rfl ⟨_, _, _, rfl, rfl, rfl, rfl⟩ ?_ ?_
       ·refine l_call (cap := []) s rfl func22 rfl (by kernel_rfl) rfl rfl (c_poset_Below n _ _ s.lt t_ (Ap01) (cp01) (s.ft 101 rfl) x55.Name (by omega) r81 hr81) fun v127 a w hK hp s => ?_
        replace hE := hE.grow hK; replace hZ := Nat.le_trans hZ hK.size; refine ⟨fun g _ h => h.grow hK, ?_⟩; clear hK
        obtain ⟨Au128a1, cu128a1, rfl, hu128a1⟩ := hp
        replace s := s.ns 164 hu128a1
        obtain ⟨hlq129, hmq129, csq129, hdq129, hcq129⟩ := (SlR.again (s.ft 101 rfl) hx55 hep103)
        obtain ⟨Aq1292, cq1292, Aq1293, cq1293, rfl, lq1291, hq1292, hq1293⟩ := RTypeDecl.open hdq129
        replace s := s.ns 165 hq1292
        replace s := s.ns 166 hq1293
        refine n_1 29 s (by kernel_rfl) rfl ⟨_, _, _, rfl, rfl, rfl, rfl⟩ (l_quiet s rfl rfl (y_ldp1 s rfl hlq129 hmq129 (hcq129 0 _ rfl) underlying9 rfl) fun a s => ?_); refine ⟨fun g _ h => h, ?_⟩
        refine n_1 30 s (by kernel_rfl) rfl ⟨_, _, _, rfl, rfl, rfl, rfl⟩ (l_call (cap := []) s rfl func22 rfl (by kernel_rfl) rfl rfl (c_poset_Below n _ _ s.lt (((t_).drop (t_'.toNat % ((t_).length))) ++ ((t_).take (t_'.toNat % ((t_).length)))) (Aq24) (cq24) (s.ft 122 rfl) x55.Name (by omega) r86 hr86) fun v130 a w hK hp s => ?_)
        replace hE := hE.grow hK; replace hZ := Nat.le_trans hZ hK.size; refine ⟨fun g _ h => h.grow hK, ?_⟩; clear hK
        obtain ⟨Au131a1, cu131a1, rfl, hu131a1⟩ := hp
        replace s := s.ns 167 hu131a1
        refine n_1 31 s (by kernel_rfl) rfl ⟨_, _, _, rfl, rfl, rfl, rfl⟩ (l_call (cap := []) s rfl func17 rfl (by kernel_rfl) rfl rfl (c_r03_SameStrings n _ _ s.lt r81 (Au128a1) (cu128a1) (s.ft 164 rfl) r86 (Au131a1) (cu131a1) (s.ft 167 rfl) r89 hr89) fun v132 a w hK hp s => ?_)
        replace hE := hE.grow hK; replace hZ := Nat.le_trans hZ hK.size; refine ⟨fun g _ h => h.grow hK, ?_⟩; clear hK
        obtain rfl := hp
        refine n_1 32 s (by kernel_rfl) rfl ⟨_, _, _, rfl, rfl, rfl, rfl⟩ (l_quiet s rfl rfl (y_not s rfl) fun a s => ?_); refine ⟨fun g _ h => h, ?_⟩
        refine n_1 33 s (by kernel_rfl) rfl rfl (l_quiet s rfl rfl (y_pick_f s rfl rfl) fun a s => ?_); refine ⟨fun g _ h => h, ?_⟩
        refine n_end (by kernel_rfl) ?_; clear hR hZ hE
        apply pN
        exact ⟨(!(r89)), hg, (s.sb rfl rfl rfl)⟩
       ·obtain ⟨hlq134, hmq134, csq134, hdq134, hcq134⟩ := (SlR.again (s.ft 101 rfl) hx55 hep103)
        obtain ⟨Aq1342, cq1342, Aq1343, cq1343, rfl, lq1341, hq1342, hq1343⟩ := RTypeDecl.open hdq134
        replace s := s.ns 168 hq1342
        replace s := s.ns 169 hq1343
        refine l_quiet s rfl rfl (y_ldp1 s rfl hlq134 hmq134 (hcq134 0 _ rfl) underlying9 rfl) fun a s => ?_; refine ⟨fun g _ h => h, ?_⟩
        refine n_1 23 s (by kernel_rfl) rfl ⟨_, _, _, rfl, rfl, rfl, rfl⟩ (l_call (cap := []) s rfl func22 rfl (by kernel_rfl) rfl rfl (c_poset_Below n _ _ s.lt t_ (Ap01) (cp01) (s.ft 101 rfl) x55.Name (by omega) r81 hr81) fun v135 a w hK hp s => ?_)
        replace hE := hE.grow hK; replace hZ := Nat.le_trans hZ hK.size; refine ⟨fun g _ h => h.grow hK, ?_⟩; clear hK
        obtain ⟨Au136a1, cu136a1, rfl, hu136a1⟩ := hp
        replace s := s.ns 170 hu136a1
        refine n_1 30 s (by kernel_rfl) rfl ⟨_, _, _, rfl, rfl, rfl, rfl⟩ (l_call (cap := []) s rfl func22 rfl (by kernel_rfl) rfl rfl (c_poset_Below n _ _ s.lt (((t_).drop (t_'.toNat % ((t_).length))) ++ ((t_).take (t_'.toNat % ((t_).length)))) (Aq24) (cq24) (s.ft 122 rfl) x55.Name (by omega) r86 hr86) fun v137 a w hK hp s => ?_)
        replace hE := hE.grow hK; replace hZ := Nat.le_trans hZ hK.size; refine ⟨fun g _ h => h.grow hK, ?_⟩; clear hK
        obtain ⟨Au138a1, cu138a1, rfl, hu138a1⟩ := hp
        replace s := s.ns 171 hu138a1
        refine n_1 31 s (by kernel_rfl) rfl ⟨_, _, _, rfl, rfl, rfl, rfl⟩ (l_call (cap := []) s rfl func17 rfl (by kernel_rfl) rfl rfl (c_r03_SameStrings n _ _ s.lt r81 (Au136a1) (cu136a1) (s.ft 170 rfl) r86 (Au138a1) (cu138a1) (s.ft 171 rfl) r89 hr89) fun v139 a w hK hp s => ?_)
        replace hE := hE.grow hK; replace hZ := Nat.le_trans hZ hK.size; refine ⟨fun g _ h => h.grow hK, ?_⟩; clear hK
        obtain rfl := hp
        refine n_1 32 s (by kernel_rfl) rfl ⟨_, _, _, rfl, rfl, rfl, rfl⟩ (l_quiet s rfl rfl (y_not s rfl) fun a s => ?_); refine ⟨fun g _ h => h, ?_⟩
        refine n_1 33 s (by kernel_rfl) rfl rfl (l_quiet s rfl rfl (y_pick_f s rfl rfl) fun a s => ?_); refine ⟨fun g _ h => h, ?_⟩
        refine n_end (by kernel_rfl) ?_; clear hR hZ hE
        apply pN
        exact ⟨(!(r89)), hg, (s.sb rfl rfl rfl)⟩
      ·obtain ⟨hlq141, hmq141, csq141, hdq141, hcq141⟩ := (SlR.again (s.ft 101 rfl) hx55 hep103)
       obtain ⟨Aq1412, cq1412, Aq1413, cq1413, rfl, lq1411, hq1412, hq1413⟩ := RTypeDecl.open hdq141
       replace s := s.ns 172 hq1412
       replace s := s.ns 173 hq1413
       refine l_quiet s rfl rfl (y_ldp1 s rfl hlq141 hmq141 (hcq141 0 _ rfl) underlying9 rfl) fun a s => ?_; refine ⟨fun g _ h => h, ?_⟩
       obtain ⟨hlq142, hmq142, csq142, hdq142, hcq142⟩ := (SlR.again (s.ft 101 rfl) hx55 hep102)
       obtain ⟨Aq1422, cq1422, Aq1423, cq1423, rfl, lq1421, hq1422, hq1423⟩ := RTypeDecl.open hdq142
       replace s := s.ns 174 hq1422
       replace s := s.ns 175 hq1423
       refine n_1 22 s (by kernel_rfl) rfl ⟨_, _, _, rfl, rfl, rfl, rfl⟩ (l_quiet s rfl rfl (y_ldp1 s rfl hlq142 hmq142 (hcq142 0 _ rfl) underlying9 rfl) fun a s => ?_); refine ⟨fun g _ h => h, ?_⟩
       refine n_1 23 s (by kernel_rfl) rfl ⟨_, _, _, rfl, rfl, rfl, rfl⟩ (l_call (cap := []) s rfl func22 rfl (by kernel_rfl) rfl rfl (c_poset_Below n _ _ s.lt t_ (Ap01) (cp01) (s.ft 101 rfl) x55.Name (by omega) r81 hr81) fun v143 a w hK hp s => ?_)
       replace hE := hE.grow hK; replace hZ := Nat.le_trans hZ hK.size; refine ⟨fun g _ h => h.grow hK, ?_⟩; clear hK
       obtain ⟨Au144a1, cu144a1, rfl, hu144a1⟩ := hp
       replace s := s.ns 176 hu144a1
       refine n_1 30 s (by kernel_rfl) rfl ⟨_, _, _, rfl, rfl, rfl, rfl⟩ (l_call (cap := []) s rfl func22 rfl (by kernel_rfl) rfl rfl (c_poset_Below n _ _ s.lt (((t_).drop (t_'.toNat % ((t_).length))) ++ ((t_).take (t_'.toNat % ((t_).length)))) (Aq24) (cq24) (s.ft 122 rfl) x55.Name (by omega) r86 hr86) fun v145 a w hK hp s => ?_)
       replace hE := hE.grow hK; replace hZ := Nat.le_trans hZ hK.size; refine ⟨fun g _ h => h.grow hK, ?_⟩; clear hK
       obtain ⟨Au146a1, cu146a1, rfl, hu146a1⟩ := hp
       replace s := s.ns 177 hu146a1
       refine n_1 31 s (by kernel_rfl) rfl ⟨_, _, _, rfl, rfl, rfl, rfl⟩ (l_call (cap := []) s rfl func17 rfl (by kernel_rfl) rfl rfl (c_r03_SameStrings n _ _ s.lt r81 (Au144a1) (cu144a1) (s.ft 176 rfl) r86 (Au146a1) (cu146a1) (s.ft 177 rfl) r89 hr89) fun v147 a w hK hp s => ?_)
       replace hE := hE.grow hK; replace hZ := Nat.le_trans hZ hK.size; refine ⟨fun g _ h => h.grow hK, ?_⟩; clear hK
       obtain rfl := hp
       refine n_1 32 s (by kernel_rfl) rfl ⟨_, _, _, rfl, rfl, rfl, rfl⟩ (l_quiet s rfl rfl (y_not s rfl) fun a s => ?_); refine ⟨fun g _ h => h, ?_⟩
       refine n_1 33 s (by kernel_rfl) rfl rfl (l_quiet s rfl rfl (y_pick_f s rfl rfl) fun a s => ?_); refine ⟨fun g _ h => h, ?_⟩
       refine n_end (by kernel_rfl) ?_; clear hR hZ hE
       apply pN
       exact ⟨(!(r89)), hg, (s.sb rfl rfl rfl)⟩
    ·refine l_quiet s rfl rfl (y_ptrField (o' := 0) s rfl underlying40 rfl rfl rfl) fun a s => ?_; refine ⟨fun g _ h => h, ?_⟩
     refine n_2 21 29 s (by kernel_rfl) rfl ⟨_, _, _, rfl, rfl, rfl, rfl⟩ rfl ⟨_, _, _, rfl, rfl, rfl, rfl⟩ ?_ ?_
     ·refine l_quiet s rfl rfl (y_ptrField (o' := 0) s rfl underlying40 rfl rfl rfl) fun a s => ?_; refine ⟨fun g _ h => h, ?_⟩
      refine n_2 22 29 s (by kernel_rfl) rfl ⟨_, _, _, rfl, rfl, rfl, rfl⟩ rfl ⟨_, _, _, rfl, rfl, rfl, rfl⟩ ?_ ?_
      ·obtain ⟨hlq149, hmq149, csq149, hdq149, hcq149⟩ := (SlR.again (s.ft 101 rfl) hx55 hep102)
       obtain ⟨Aq1492, cq1492, Aq1493, cq1493, rfl, lq1491, hq1492, hq1493⟩ := RTypeDecl.open hdq149
       replace s := s.ns 178 hq1492
       replace s := s.ns 179 hq1493
       refine l_quiet s rfl rfl (y_ldp1 s rfl hlq149 hmq149 (hcq149 0 _ rfl) underlying9 rfl) fun a s => ?_; refine ⟨fun g _ h => h, ?_⟩
       refine n_2 23 29 s (by kernel_rfl) rfl ⟨_, _, _, rfl, rfl, rfl, rfl⟩ rfl ⟨_, _, _, rfl, rfl, rfl, rfl⟩ ?_ ?_
       ·refine l_call (cap := []) s rfl func22 rfl (by kernel_rfl) rfl rfl (c_poset_Below n _ _ s.lt t_ (Ap01) (cp01) (s.ft 101 rfl) x55.Name (by omega) r81 hr81) fun v150 a w hK hp s => ?_
        replace hE := hE.grow hK; replace hZ := Nat.le_trans hZ hK.size; refine ⟨fun g _ h => h.grow hK, ?_⟩; clear hK
        obtain ⟨Au151a1, cu151a1, rfl, hu151a1⟩ := hp
        replace s := s.ns 180 hu151a1
        obtain ⟨hlq152, hmq152, csq152, hdq152, hcq152⟩ := (SlR.again (s.ft 101 rfl) hx55 hep103)
        obtain ⟨Aq1522, cq1522, Aq1523, cq1523, rfl, lq1521, hq1522, hq1523⟩ := RTypeDecl.open hdq152
        replace s := s.ns 181 hq1522
        replace s := s.ns 182 hq1523
        refine n_1 29 s (by kernel_rfl) rfl ⟨_, _, _, rfl, rfl, rfl, rfl⟩ (l_quiet s rfl rfl (y_ldp1 s rfl hlq152 hmq152 (hcq152 0 _ rfl) underlying9 rfl) fun a s => ?_); refine ⟨fun g _ h => h, ?_⟩
        refine n_1 30 s (by kernel_rfl) rfl ⟨_, _, _, rfl, rfl, rfl, rfl⟩ (l_call (cap := []) s rfl func22 rfl (by kernel_rfl) rfl rfl (c_poset_Below n _ _ s.lt (((t_).drop (t_'.toNat % ((t_).length))) ++ ((t_).take (t_'.toNat % ((t_).length)))) (Aq24) (cq24) (s.ft 122 rfl) x55.Name (by omega) r86 hr86) fun v153 a w hK hp s => ?_)
        replace hE := hE.grow hK; replace hZ := Nat.le_trans hZ hK.size; refine ⟨fun g _ h => h.grow hK, ?_⟩; clear hK
        obtain ⟨Au154a1, cu154a1, rfl, hu154a1⟩ := hp
        replace s := s.ns 183 hu154a1
        refine n_1 31 s (by kernel_rfl) rfl ⟨_, _, _, rfl, rfl, rfl, rfl⟩ (l_call (cap := []) s rfl func17 rfl (by kernel_rfl) rfl rfl (c_r03_SameStrings n _ _ s.lt r81 (Au151a1) (cu151a1) (s.ft 180 rfl) r86 (Au154a1) (cu154a1) (s.ft 183 rfl) r89 hr89) fun v155 a w hK hp s => ?_)
        replace hE := hE.grow hK; replace hZ := Nat.le_trans hZ hK.size; refine ⟨fun g _ h => h.grow hK, ?_⟩; clear hK
        obtain rfl := hp
        refine n_1 32 s (by kernel_rfl) rfl ⟨_, _, _, rfl, rfl, rfl, rfl⟩ (l_quiet s rfl rfl (y_not s rfl) fun a s => ?_); refine ⟨fun g _ h => h, ?_⟩
        refine n_1 33 s (by kernel_rfl) rfl rfl (l_quiet s rfl rfl (y_pick_f s rfl rfl) fun a s => ?_); refine ⟨fun g _ h => h, ?_⟩
        refine n_end (by kernel_rfl) ?_; clear hR hZ hE
        apply pN
        exact ⟨(!(r89)), hg, (s.sb rfl rfl rfl)⟩
       ·obtain ⟨hlq157, hmq157, csq157, hdq157, hcq157⟩ := (SlR.again (s.ft 101 rfl) hx55 hep103)
        obtain ⟨Aq1572, cq1572, Aq1573, cq1573, rfl, lq1571, hq1572, hq1573⟩ := RTypeDecl.open hdq157
        replace s := s.ns 184 hq1572
        replace s := s.ns 185 hq1573
        refine l_quiet s rfl rfl (y_ldp1 s rfl hlq157 hmq157 (hcq157 0 _ rfl) underlying9 rfl) fun a s => ?_; refine ⟨fun g _ h => h, ?_⟩
        refine n_1 23 s (by kernel_rfl) rfl ⟨_, _, _, rfl, rfl, rfl, rfl⟩ (l_call (cap := []) s rfl func22 rfl (by kernel_rfl) rfl rfl (c_poset_Below n _ _ s.lt t_ (Ap01) (cp01) (s.ft 101 rfl) x55.Name (by omega) r81 hr81) fun v158 a w hK hp s => ?_)
        replace hE := hE.grow hK; replace hZ := Nat.le_trans hZ hK.size; refine ⟨fun g _ h => h.grow hK, ?_⟩; clear hK
        obtain ⟨Au159a1, cu159a1, rfl, hu159a1⟩ := hp
        replace s := s.ns 186 hu159a1
        refine n_1 30 s (by kernel_rfl) rfl ⟨_, _, _, rfl, rfl, rfl, rfl⟩ (l_call (cap := []) s rfl func22 rfl (by kernel_rfl) rfl rfl (c_poset_Below n _ _ s.lt (((t_).drop (t_'.toNat % ((t_).length))) ++ ((t_).take (t_'.toNat % ((t_).length)))) (Aq24) (cq24) (s.ft 122 rfl) x55.Name (by omega) r86 hr86) fun v160 a w hK hp s => ?_)
        replace hE := hE.grow hK; replace hZ := Nat.le_trans hZ hK.size; refine ⟨fun g _ h => h.grow hK, ?_⟩; clear hK
        obtain ⟨Au161a1, cu161a1, rfl, hu161a1⟩ := hp
        replace s := s.ns 187 hu161a1
        refine n_1 31 s (by kernel_rfl) rfl ⟨_, _, _, rfl, rfl, rfl, rfl⟩ (l_call (cap := []) s rfl func17 rfl (by kernel_rfl) rfl rfl (c_r03_SameStrings n _ _ s.lt r81 (Au159a1) (cu159a1) (s.ft 186 rfl) r86 (Au161a1) (cu161a1) (s.ft 187 rfl) r89 hr89) fun v162 a w hK hp s => ?_)
        replace hE := hE.grow hK; replace hZ := Nat.le_trans hZ hK.size; refine ⟨fun g _ h => h.grow hK, ?_⟩; clear hK
        obtain rfl := hp
        refine n_1 32 s (by kernel_rfl) rfl ⟨_, _, _, rfl, rfl, rfl, rfl⟩ (l_quiet s rfl rfl (y_not s rfl) fun a s => ?_); refine ⟨fun g _ h => h, ?_⟩
        refine n_1 33 s (by kernel_rfl) rfl rfl (l_quiet s rfl rfl (y_pick_f s rfl rfl) fun a s => ?_); refine ⟨fun g _ h => h, ?_⟩
        refine n_end (by kernel_rfl) ?_; clear hR hZ hE
        apply pN
        exact ⟨(!(r89)), hg, (s.sb rfl rfl rfl)⟩
      ·obtain ⟨hlq164, hmq164, csq164, hdq164, hcq164⟩ := (SlR.again (s.ft 101 rfl) hx55 hep103)
       obtain ⟨Aq1642, cq1642, Aq1643, cq1643, rfl, lq1641, hq1642, hq1643⟩ := RTypeDecl.open hdq164
       replace s := s.ns 188 hq1642
       replace s := s.ns 189 hq1643
       refine l_quiet s rfl rfl (y_ldp1 s rfl hlq164 hmq164 (hcq164 0 _ rfl) underlying9 rfl) fun a s => ?_; refine ⟨fun g _ h => h, ?_⟩
       obtain ⟨hlq165, hmq165, csq165, hdq165, hcq165⟩ := (SlR.again (s.ft 101 rfl) hx55 hep102)
       obtain ⟨Aq1652, cq1652, Aq1653, cq1653, rfl, lq1651, hq1652, hq1653⟩ := RTypeDecl.open hdq165
       replace s := s.ns 190 hq1652
       replace s := s.ns 191 hq1653
       refine n_1 22 s (by kernel_rfl) rfl ⟨_, _, _, rfl, rfl, rfl, rfl⟩ (l_quiet s rfl rfl (y_ldp1 s rfl hlq165 hmq165 (hcq165 0 _ rfl) underlying9 rfl) fun a s => ?_); refine ⟨fun g _ h => h, ?_⟩
       refine n_1 23 s (by kernel_rfl) rfl ⟨_, _, _, rfl, rfl, rfl, rfl⟩ (l_call (cap := []) s rfl func22 rfl (by kernel_rfl) rfl rfl (c_poset_Below n _ _ s.lt t_ (Ap01) (cp01) (s.ft 101 rfl) x55.Name (by omega) r81 hr81) fun v166 a w hK hp s => ?_)
       replace hE := hE.grow hK; replace hZ := Nat.le_trans hZ hK.size; refine ⟨fun g _ h => h.grow hK, ?_⟩; clear hK
       obtain ⟨Au167a1, cu167a1, rfl, hu167a1⟩ := hp
       replace s := s.ns 192 hu167a1
       refine n_1 30 s (by kernel_rfl) rfl ⟨_, _, _, rfl, rfl, rfl, rfl⟩ (l_call (cap := []) s rfl func22 rfl (by kernel_rfl) rfl rfl (c_poset_Below n _ _ s.lt (((t_).drop (t_'.toNat % ((t_).length))) ++ ((t_).take (t_'.toNat % ((t_).length)))) (Aq24) (cq24) (s.ft 122 rfl) x55.Name (by omega) r86 hr86) fun v168 a w hK hp s => ?_)
       replace hE := hE.grow hK; replace hZ := Nat.le_trans hZ hK.size; refine ⟨fun g _ h => h.grow hK, ?_⟩; clear hK
       obtain ⟨Au169a1, cu169a1, rfl, hu169a1⟩ := hp
       replace s := s.ns 193 hu169a1
       refine n_1 31 s (by kernel_rfl) rfl ⟨_, _, _, rfl, rfl, rfl, rfl⟩ (l_call (cap := []) s rfl func17 rfl (by kernel_rfl) rfl rfl (c_r03_SameStrings n _ _ s.lt r81 (Au167a1) (cu167a1) (s.ft 192 rfl) r86 (Au169a1) (cu169a1) (s.ft 193 rfl) r89 hr89) fun v170 a w hK hp s => ?_)
       replace hE := hE.grow hK; replace hZ := Nat.le_trans hZ hK.size; refine ⟨fun g _ h => h.grow hK, ?_⟩; clear hK
       obtain rfl := hp
       refine n_1 32 s (by kernel_rfl) rfl ⟨_, _, _, rfl, rfl, rfl, rfl⟩ (l_quiet s rfl rfl (y_not s rfl) fun a s => ?_); refine ⟨fun g _ h => h, ?_⟩
       refine n_1 33 s (by kernel_rfl) rfl rfl (l_quiet s rfl rfl (y_pick_f s rfl rfl) fun a s => ?_); refine ⟨fun g _ h => h, ?_⟩
       refine n_end (by kernel_rfl) ?_; clear hR hZ hE
       apply pN
       exact ⟨(!(r89)), hg, (s.sb rfl rfl rfl)⟩
     ·obtain ⟨hlq172, hmq172, csq172, hdq172, hcq172⟩ := (SlR.again (s.ft 101 rfl) hx55 hep103)
      obtain ⟨Aq1722, cq1722, Aq1723, cq1723, rfl, lq1721, hq1722, hq1723⟩ := RTypeDecl.open hdq172
      replace s := s.ns 194 hq1722
      replace s := s.ns 195 hq1723
      refine l_quiet s rfl rfl (y_ldp1 s rfl hlq172 hmq172 (hcq172 0 _ rfl) underlying9 rfl) fun a s => ?_; refine ⟨fun g _ h => h, ?_⟩
      refine n_1 21 s (by kernel_rfl) rfl ⟨_, _, _, rfl, rfl, rfl, rfl⟩ (l_quiet s rfl rfl (y_ptrField (o' := 0) s rfl underlying40 rfl rfl rfl) fun a s => ?_); refine ⟨fun g _ h => h, ?_⟩
      obtain ⟨hlq173, hmq173, csq173, hdq173, hcq173⟩ := (SlR.again (s.ft 101 rfl) hx55 hep102)
      obtain ⟨Aq1732, cq1732, Aq1733, cq1733, rfl, lq1731, hq1732, hq1733⟩ := RTypeDecl.open hdq173
      replace s := s.ns 196 hq1732
      replace s := s.ns 197 hq1733
      refine n_1 22 s (by kernel_rfl) rfl ⟨_, _, _, rfl, rfl, rfl, rfl⟩ (l_quiet s rfl rfl (y_ldp1 s rfl hlq173 hmq173 (hcq173 0 _ rfl) underlying9 rfl) fun a s => ?_); refine ⟨fun g _ h => h, ?_⟩
      refine n_1 23 s (by kernel_rfl) rfl ⟨_, _, _, rfl, rfl, rfl, rfl⟩ (l_call (cap := []) s rfl func22 rfl (by kernel_rfl) rfl rfl (c_poset_Below n _ _ s.lt t_ (Ap01) (cp01) (s.ft 101 rfl) x55.Name (by omega) r81 hr81) fun v174 a w hK hp s => ?_)
      replace hE := hE.grow hK; replace hZ := Nat.le_trans hZ hK.size; refine ⟨fun g _ h => h.grow hK, ?_⟩; clear hK
      obtain ⟨Au175a1, cu175a1, rfl, hu175a1⟩ := hp
      replace s := s.ns 198 hu175a1
      refine n_1 30 s (by kernel_rfl) rfl ⟨_, _, _, rfl, rfl, rfl, rfl⟩ (l_call (cap := []) s rfl func22 rfl (by kernel_rfl) rfl rfl (c_poset_Below n _ _ s.lt (((t_).drop (t_'.toNat % ((t_).length))) ++ ((t_).take (t_'.toNat % ((t_).length)))) (Aq24) (cq24) (s.ft 122 rfl) x55.Name (by omega) r86 hr86) fun v176 a w hK hp s => ?_)
      replace hE := hE.grow hK; replace hZ := Nat.le_trans hZ hK.size; refine ⟨fun g _ h => h.grow hK, ?_⟩; clear hK
      obtain ⟨Au177a1, cu177a1, rfl, hu177a1⟩ := hp
      replace s := s.ns 199 hu177a1
      refine n_1 31 s (by kernel_rfl) rfl ⟨_, _, _, rfl, rfl, rfl, rfl⟩ (l_call (cap := []) s rfl func17 rfl (by kernel_rfl) rfl rfl (c_r03_SameStrings n _ _ s.lt r81 (Au175a1) (cu175a1) (s.ft 198 rfl) r86 (Au177a1) (cu177a1) (s.ft 199 rfl) r89 hr89) fun v178 a w hK hp s => ?_)
      replace hE := hE.grow hK; replace hZ := Nat.le_trans hZ hK.size; refine ⟨fun g _ h => h.grow hK, ?_⟩; clear hK
      obtain rfl := hp
      refine n_1 32 s (by kernel_rfl) rfl ⟨_, _, _, rfl, rfl, rfl, rfl⟩ (l_quiet s rfl rfl (y_not s rfl) fun a s => ?_); refine ⟨fun g _ h => h, ?_⟩
      refine n_1 33 s (by kernel_rfl) rfl rfl (l_quiet s rfl rfl (y_pick_f s rfl rfl) fun a s => ?_); refine ⟨fun g _ h => h, ?_⟩
      refine n_end (by kernel_rfl) ?_; clear hR hZ hE
      apply pN
      exact ⟨(!(r89)), hg, (s.sb rfl rfl rfl)⟩
   clear s a; rintro a w ⟨t_53, hg, s⟩
   subst hk52
   refine c_cond s rfl (fun hc180 => ?_) (fun hc180 => ?_)
   ·replace hg := br_t hg hc180
    apply wR
    refine asg s rfl rfl fun a s => ?_
    apply wN
    apply wp_ret
    refine p_inR ?_
    refine p_thenR ?_
    refine p_thenR ?_
    refine p_inR ?_
    refine p_thenR ?_
    obtain rfl := Option.some.inj hg
    refine fin1 (fn := Try.f9) s rfl (r_tmp s rfl) ?_
    exact rfl
   replace hg := br_n hg hc180
   apply wp_skip
   refine p_inN ?_
   apply pN
   apply wL
   refine qq s rfl (y_addN (i := t_49) (j := 1) s rfl rfl (in64.2 (by omega))) fun a s => ?_
   refine mv s rfl rfl fun a s => ?_
   apply wN
   exact ⟨m1, Nat.lt_succ_self _, ⟨(t_49 + 1), hg, (s.sb rfl rfl rfl)⟩⟩
  replace hg := br_f hg hc50
  apply wp_exit
  refine p_then ?_
  refine p_then ?_
  refine p_in ?_
  apply pN
  exact ⟨hg, (s.sb rfl rfl rfl)⟩
 clear s a; rintro a w ⟨hg, s⟩
 subst hk48
 apply wQ
 obtain ⟨r181, hr181, hg⟩ := bind_some hg
 apply wL
 refine l_seq rfl (l_call (cap := []) s rfl func12 rfl (by kernel_rfl) rfl rfl (c_law03_exampleHolds n _ _ s.lt  r181 hr181) fun v184 a w hK hp s => ?_)
 obtain rfl := hp
 refine asg s rfl rfl fun a s => ?_
 apply wN
 apply wp_ret
 obtain rfl := Option.some.inj hg
 refine fin1 (fn := Try.f9) s rfl (r_tmp s rfl) ?_
 exact rfl
end Go.Proofs.Ytoeolfnjblibpaa
