/- Chapter 41: the walks, part 3 -/
import Derived.Test.YtegboboemepifaaGreatDoorW2
namespace Go.Proofs.YtegboboemepifaaGreatDoor
open Go.Gl Go.RowKit Tryz
set_option linter.unusedVariables false
set_option linter.unusedSimpArgs false
set_option maxRecDepth 4000

set_option maxHeartbeats 400000 in
theorem c_r39_arguments (n : Nat) (M : Bs) (w0 : World) (hM : ∀ b, M b → b < w0.heap.size) (C : Bs) (r_ : reader) (Ap04 : Option Addr) (cp04 : Nat) (Ap05 : Option Addr) (cp05 : Nat) (csp03 : List Value) (csp04 : List Value) (lp01 : (r_.s_).length ≤ 9223372036854775807) (hW : Wd ⟨0, M, C, w0⟩ [(9200003, Ob.row (Ap04) ((r_.sorts_).length) (cp04) 9 1 (csp03)), (9200004, Ob.row (Ap05) ((r_.texts_).length) (cp05) 9 1 (csp04))] [(9300003, rdF Rep.str (csp03) (r_.sorts_)), (9300004, rdF Rep.str (csp04) (r_.texts_))] w0) (r : (reader × (List Arg))) (hg : r39_arguments n r_ = some r) :
    Calls Tryz.prog 85 [.agg #[.string (bs (r_.s_)), .int .i64 (r_.at_), .int .i64 (r_.e_), .slice (Ap04) ((r_.sorts_).length) (cp04), .slice (Ap05) ((r_.texts_).length) (cp05)]].toArray w0 (Ret C w0 fun v w => ∃ (Am04 : Option Addr), ∃ (cm04 : Nat), ∃ (csm0_3 : List Value), ∃ (Am05 : Option Addr), ∃ (cm05 : Nat), ∃ (csm0_4 : List Value), ∃ (Ab1 : Option Addr), ∃ (cb1 : Nat), v = .tuple #[.agg #[.string (bs (r.1.s_)), .int .i64 (r.1.at_), .int .i64 (r.1.e_), .slice (Am04) ((r.1.sorts_).length) (cm04), .slice (Am05) ((r.1.texts_).length) (cm05)], .slice (Ab1) ((r.2).length) (cb1)] ∧ ((r.1.s_).length ≤ 9223372036854775807) ∧ (Wd ⟨0, M, C, w0⟩ [(9200003, Ob.row (Am04) ((r.1.sorts_).length) (cm04) 9 1 (csm0_3)), (9200004, Ob.row (Am05) ((r.1.texts_).length) (cm05) 9 1 (csm0_4))] [(9300003, rdF Rep.str (csm0_3) (r.1.sorts_)), (9300004, rdF Rep.str (csm0_4) (r.1.texts_)), (9500100, slF RArg (Ab1) ((r.2).length) (cb1) (r.2))] w)) := by
 unfold r39_arguments at hg
 refine enterL M C func85 rfl rfl hW ?_
 intro a s
 apply wR
 refine l_seq rfl (l_box (zs := [vT (r_.s_), vI (r_.at_), vI (r_.e_), sl Ap04 (r_.sorts_) cp04, sl Ap05 (r_.texts_) cp05]) s 1000 rfl rfl rfl rfl fun b3 a w hb hK s => ?_)
 refine l_seq rfl (l_alloc (zs := [vT ([]), vI 0, vI 0, .slice (none) (0) (0), .slice (none) (0) (0)]) s 1001 rfl rfl rfl rfl fun b4 a w hb hK s => ?_)
 refine asg s rfl rfl fun a s => ?_
 apply wN
 apply wR
 refine l_seq rfl (l_buildEmpty (sz := 2) s 1100 underlying41 rfl rfl rfl fun b6 a w hbb6 hK s => ?_)
 clear hbb6
 refine asg s rfl rfl fun a s => ?_
 apply wN
 apply wQ
 obtain ⟨k7, hg, hk7⟩ := jn_some hg
 refine c_post (fun a w => ∃ (out_8 : (List Arg)) (r_12 : (List UInt8)) (r_13 : Int) (r_14 : Int) (r_15 : (List (List UInt8))) (r_19 : (List (List UInt8))) (A9 : Option Addr) (c10 : Nat) (cs11 : List Value) (A16 : Option Addr) (c17 : Nat) (cs18 : List Value) (A20 : Option Addr) (c21 : Nat) (cs22 : List Value), k7 out_8 r_12 r_13 r_14 r_15 r_19 = some r ∧ ((r_12).length ≤ 9223372036854775807) ∧ St (⟨Tryz.f85.ntmps, M, C, w0⟩ : Ctx) [(1, vP b3 0), (2, vP b4 0), (4, sl A9 (out_8) c10)] [(1000, Ob.box b3 [vT r_12, vI r_13, vI r_14, sl A16 (r_15) c17, sl A20 (r_19) c21] 82), (1001, Ob.box b4 [vT ([]), vI 0, vI 0, .slice (none) (0) (0), .slice (none) (0) (0)] 82), (700101, Ob.row (A9) ((out_8).length) (c10) 45 2 (cs11)), (700103, Ob.row (A16) ((r_15).length) (c17) 9 1 (cs18)), (700105, Ob.row (A20) ((r_19).length) (c21) 9 1 (cs22))] [(102, rdF RArg (cs11) (out_8)), (104, rdF Rep.str (cs18) (r_15)), (106, rdF Rep.str (cs22) (r_19))] a w) ?_ ?_
 ·apply wp_block
  replace s := s.add 113 (rdF RArg ([]) ([])) (RdAll.nil _ _ _)
  replace s := s.al 108 113 rfl
  replace s := s.al 110 9300003 rfl
  replace s := s.al 112 9300004 rfl
  replace s := s.pk [(1000, 1000), (1001, 1001), (700107, 1100), (700109, 9200003), (700111, 9200004)] (by decide)
  refine c_loop (σ := Nat) (fun m1 a w => ∃ (out_23 : (List Arg)) (r_27 : (List UInt8)) (r_28 : Int) (r_29 : Int) (r_30 : (List (List UInt8))) (r_34 : (List (List UInt8))) (A24 : Option Addr) (c25 : Nat) (cs26 : List Value) (A31 : Option Addr) (c32 : Nat) (cs33 : List Value) (A35 : Option Addr) (c36 : Nat) (cs37 : List Value), r39_arguments_L0 n k7 m1 out_23 r_27 r_28 r_29 r_30 r_34 = some r ∧ ((r_27).length ≤ 9223372036854775807) ∧ St (⟨Tryz.f85.ntmps, M, C, w0⟩ : Ctx) [(1, vP b3 0), (2, vP b4 0), (4, sl A24 (out_23) c25)] [(1000, Ob.box b3 [vT r_27, vI r_28, vI r_29, sl A31 (r_30) c32, sl A35 (r_34) c36] 82), (1001, Ob.box b4 [vT ([]), vI 0, vI 0, .slice (none) (0) (0), .slice (none) (0) (0)] 82), (700107, Ob.row (A24) ((out_23).length) (c25) 45 2 (cs26)), (700109, Ob.row (A31) ((r_30).length) (c32) 9 1 (cs33)), (700111, Ob.row (A35) ((r_34).length) (c36) 9 1 (cs37))] [(108, rdF RArg (cs26) (out_23)), (110, rdF Rep.str (cs33) (r_30)), (112, rdF Rep.str (cs37) (r_34))] a w) (fun m1 => m1) n ⟨([]), (r_.s_), (r_.at_), (r_.e_), (r_.sorts_), (r_.texts_), (some ⟨b6, 0, none⟩), (0), ([]), (Ap04), (cp04), (csp03), (Ap05), (cp05), (csp04), hg, (by omega), (s.sb rfl rfl rfl)⟩ ?_
  clear s a; rintro m1 a w ⟨out_23, r_27, r_28, r_29, r_30, r_34, A24, c25, cs26, A31, c32, cs33, A35, c36, cs37, hg, lr_27, s⟩
  rcases m1 with _ | m1
  ·rw [r39_arguments_L0] at hg; cases hg
  rw [r39_arguments_L0] at hg
  apply wQ
  apply wQ
  obtain ⟨k38, hg, hk38⟩ := jn_some hg
  refine c_post (fun a w => ∃ (t_39 : Bool), k38 t_39 = some r ∧ St (⟨Tryz.f85.ntmps, M, C, w0⟩ : Ctx) [(1, vP b3 0), (2, vP b4 0), (4, sl A24 (out_23) c25), (20, .bool (t_39))] [(1000, Ob.box b3 [vT r_27, vI r_28, vI r_29, sl A31 (r_30) c32, sl A35 (r_34) c36] 82), (1001, Ob.box b4 [vT ([]), vI 0, vI 0, .slice (none) (0) (0), .slice (none) (0) (0)] 82), (700107, Ob.row (A24) ((out_23).length) (c25) 45 2 (cs26)), (700109, Ob.row (A31) ((r_30).length) (c32) 9 1 (cs33)), (700111, Ob.row (A35) ((r_34).length) (c36) 9 1 (cs37))] [(108, rdF RArg (cs26) (out_23)), (110, rdF Rep.str (cs33) (r_30)), (112, rdF Rep.str (cs37) (r_34))] a w) ?_ ?_
  ·rcases Decidable.em (r_29 = 0) with hs40 | hs40
   ·have hs40e := decide_eq_true hs40
    replace hg := br_t hg hs40
    rcases Decidable.em (((out_23).length) = 0) with hs41 | hs41
    ·have hs41e := decide_eq_true hs41
     replace hg := br_t hg hs41
     obtain ⟨r42, hr42, hg⟩ := bind_some hg
     apply wL
     refine qq s rfl (y_boxField (o' := 2) s rfl underlying82 rfl rfl rfl) fun a s => ?_
     refine qq s rfl (y_loadBox1 (kk := 1000) s rfl rfl rfl underlying36 rfl) fun a s => ?_
     refine qq s rfl (yl_b (y_eql s rfl rfl) hs40e) fun a s => ?_
     refine mv s rfl rfl fun a s => ?_
     refine gm s rfl rfl fun a s => ?_
     refine gy s rfl (y_lenSlice s rfl underlying41) fun a s => ?_
     refine gy s rfl (yl_b (y_eqlN (i := ((out_23).length)) (j := 0) s rfl rfl) hs41e) fun a s => ?_
     refine gm s rfl rfl fun a s => ?_
     refine gy s rfl (y_loadAll (kk := 1000) s rfl rfl underlying82 rfl rfl) fun a s => ?_
     have hT := s
     replace hT := hT.fz (R := Rep.str) (kk := 700109) [1000, 1001, 700107, 700111] 116 rfl rfl (hT.ft 110 rfl) rfl
     replace hT := hT.fz (R := Rep.str) (kk := 700111) [1000, 1001, 700107] 117 rfl rfl (hT.ft 112 rfl) rfl
     refine gl s rfl (l_call (cap := []) s rfl func83 rfl (by kernel_rfl) rfl rfl (c_r39_next n _ _ hT.lt (reader.mk r_27 r_28 r_29 r_30 r_34) (A31) (c32) (A35) (c36) (by omega) (hT.ft 116 rfl) (hT.ft 117 rfl) (41 : UInt8) r42 hr42) fun v45 a w hK hp s => ?_)
     obtain rfl := hp
     refine gy s rfl (y_pick_t s rfl rfl) fun a s => ?_
     refine gy s rfl (y_not s rfl) fun a s => ?_
     refine qq s rfl (y_pick_t s rfl rfl) fun a s => ?_
     apply wN
     exact ⟨(!(r42)), hg, (s.sb rfl rfl rfl)⟩
    have hs41e := decide_eq_false hs41
    replace hg := br_f hg hs41
    apply wL
    refine qq s rfl (y_boxField (o' := 2) s rfl underlying82 rfl rfl rfl) fun a s => ?_
    refine qq s rfl (y_loadBox1 (kk := 1000) s rfl rfl rfl underlying36 rfl) fun a s => ?_
    refine qq s rfl (yl_b (y_eql s rfl rfl) hs40e) fun a s => ?_
    refine mv s rfl rfl fun a s => ?_
    refine gm s rfl rfl fun a s => ?_
    refine gy s rfl (y_lenSlice s rfl underlying41) fun a s => ?_
    refine gy s rfl (yl_b (y_eqlN (i := ((out_23).length)) (j := 0) s rfl rfl) hs41e) fun a s => ?_
    refine gm s rfl rfl fun a s => ?_
    refine gn s rfl fun a s => ?_
    refine gn s rfl fun a s => ?_
    refine gy s rfl (y_pick_f s rfl rfl) fun a s => ?_
    refine gy s rfl (y_not s rfl) fun a s => ?_
    refine qq s rfl (y_pick_t s rfl rfl) fun a s => ?_
    apply wN
    exact ⟨(true), hg, (s.sb rfl rfl rfl)⟩
   have hs40e := decide_eq_false hs40
   replace hg := br_f hg hs40
   apply wL
   refine qq s rfl (y_boxField (o' := 2) s rfl underlying82 rfl rfl rfl) fun a s => ?_
   refine qq s rfl (y_loadBox1 (kk := 1000) s rfl rfl rfl underlying36 rfl) fun a s => ?_
   refine qq s rfl (yl_b (y_eql s rfl rfl) hs40e) fun a s => ?_
   refine mv s rfl rfl fun a s => ?_
   refine gn s rfl fun a s => ?_
   refine gn s rfl fun a s => ?_
   refine gn s rfl fun a s => ?_
   refine gn s rfl fun a s => ?_
   refine gn s rfl fun a s => ?_
   refine gn s rfl fun a s => ?_
   refine gn s rfl fun a s => ?_
   refine gn s rfl fun a s => ?_
   refine qq s rfl (y_pick_f s rfl rfl) fun a s => ?_
   apply wN
   exact ⟨(false), hg, (s.sb rfl rfl rfl)⟩
  clear s a; rintro a w ⟨t_39, hg, s⟩
  subst hk38
  refine c_cond s rfl (fun hc47 => ?_) (fun hc47 => ?_)
  ·replace hg := br_t hg hc47
   apply wp_skip
   apply pN
   apply wp_block
   apply wR
   refine asg s rfl rfl fun a s => ?_
   apply wN
   apply wR
   refine asg s rfl rfl fun a s => ?_
   apply wN
   apply wQ
   obtain ⟨r48, hr48, hg⟩ := bind_some hg
   apply wL
   refine qq s rfl (y_loadAll (kk := 1000) s rfl rfl underlying82 rfl rfl) fun a s => ?_
   have hT := s.pk [(1000, 1000), (1001, 1001), (700107, 700107), (9200003, 700109), (9200004, 700111)] (by decide)
   replace hT := hT.al 9300003 110 rfl
   replace hT := hT.al 9300004 112 rfl
   refine l_seq rfl (l_callMut (cap := []) hT _ [] (sbA (by rfl)) trivial (by rfl) rfl func84 rfl (by kernel_rfl) rfl rfl (c_r39_run n _ _ (hT.restLt [1000, 1001, 700107]) _ (reader.mk r_27 r_28 r_29 r_30 r_34) (A31) (c32) (A35) (c36) (cs33) (cs37) (by omega) (65 : UInt8) (90 : UInt8) (hT.wd.lendL _ _ _ (sbA (by rfl)) (keep_sub [1000, 1001, 700107]) (by rfl) (sbA (by rfl))) r48 hr48) ?_); intro v51 a' w' hK hp hF
   obtain ⟨Am04u52, cm04u52, csm0_3u52, Am05u52, cm05u52, csm0_4u52, rfl, lm01u52, lb1u52, hWu52⟩ := hp
   have hS2 := St.mk hF (hT.wd.back (sbA (by rfl)) (keep_sub [1000, 1001, 700107]) (by rfl) hWu52 (by rfl))
   clear s hT hF hWu52 hK; revert hS2; revert w'; revert a'; intro a w s
   replace s := s.al 120 9300003 rfl
   replace s := s.al 121 9300004 rfl
   replace s := s.ren [(1000, Ob.box b3 [vT r_27, vI r_28, vI r_29, sl A31 (r_30) c32, sl A35 (r_34) c36] 82), (1001, Ob.box b4 [vT ([]), vI 0, vI 0, .slice (none) (0) (0), .slice (none) (0) (0)] 82), (700107, Ob.row (A24) ((out_23).length) (c25) 45 2 (cs26)), (700109, Ob.row (Am04u52) ((r48.1.sorts_).length) (cm04u52) 9 1 (csm0_3u52)), (700111, Ob.row (Am05u52) ((r48.1.texts_).length) (cm05u52) 9 1 (csm0_4u52))] [1000, 1001, 700107, 9200003, 9200004] ⟨rfl, rfl, rfl, rfl, rfl, trivial⟩ (by decide)
   refine mv s rfl rfl fun a s => ?_
   refine qq s rfl (y_extract s rfl rfl) fun a s => ?_
   refine qq s rfl (y_extract s rfl rfl) fun a s => ?_
   refine l_seq rfl (l_store (n := 5) (cs' := [vT (r48.1.s_), vI (r48.1.at_), vI (r48.1.e_), sl Am04u52 (r48.1.sorts_) cm04u52, sl Am05u52 (r48.1.texts_) cm05u52]) s 1000 rfl rfl rfl rfl rfl rfl rfl rfl ?_); clear s; intro w hK s; clear hK
   refine asg s rfl rfl fun a s => ?_
   apply wN
   apply wQ
   obtain ⟨r53, hr53, hg⟩ := bind_some hg
   apply wL
   refine qq s rfl (y_loadAll (kk := 1000) s rfl rfl underlying82 rfl rfl) fun a s => ?_
   have hT := s.pk [(1000, 1000), (1001, 1001), (700107, 700107), (9200003, 700109), (9200004, 700111)] (by decide)
   replace hT := hT.al 9300003 120 rfl
   replace hT := hT.al 9300004 121 rfl
   refine l_seq rfl (l_callMut (cap := []) hT _ [] (sbA (by rfl)) trivial (by rfl) rfl func68 rfl (by kernel_rfl) rfl rfl (c_r39_word n _ _ (hT.restLt [1000, 1001, 700107]) _ r48.1 (Am04u52) (cm04u52) (Am05u52) (cm05u52) (csm0_3u52) (csm0_4u52) (by omega) [32] (by first | omega | (rw [List.length_append]; omega) | (simp only [List.length_append]; omega) | (simp only [List.length_append, List.length_take, List.length_drop, List.length_cons, List.length_nil]; omega)) (hT.wd.lendL _ _ _ (sbA (by rfl)) (keep_sub [1000, 1001, 700107]) (by rfl) (sbA (by rfl))) r53 hr53) ?_); intro v56 a' w' hK hp hF
   obtain ⟨Am04u57, cm04u57, csm0_3u57, Am05u57, cm05u57, csm0_4u57, rfl, lm01u57, hWu57⟩ := hp
   have hS2 := St.mk hF (hT.wd.back (sbA (by rfl)) (keep_sub [1000, 1001, 700107]) (by rfl) hWu57 (by rfl))
   clear s hT hF hWu57 hK; revert hS2; revert w'; revert a'; intro a w s
   replace s := s.al 124 9300003 rfl
   replace s := s.al 125 9300004 rfl
   replace s := s.ren [(1000, Ob.box b3 [vT (r48.1.s_), vI (r48.1.at_), vI (r48.1.e_), sl Am04u52 (r48.1.sorts_) cm04u52, sl Am05u52 (r48.1.texts_) cm05u52] 82), (1001, Ob.box b4 [vT ([]), vI 0, vI 0, .slice (none) (0) (0), .slice (none) (0) (0)] 82), (700107, Ob.row (A24) ((out_23).length) (c25) 45 2 (cs26)), (700109, Ob.row (Am04u57) ((r53.sorts_).length) (cm04u57) 9 1 (csm0_3u57)), (700111, Ob.row (Am05u57) ((r53.texts_).length) (cm05u57) 9 1 (csm0_4u57))] [1000, 1001, 700107, 9200003, 9200004] ⟨rfl, rfl, rfl, rfl, rfl, trivial⟩ (by decide)
   refine l_seq rfl (l_store (n := 5) (cs' := [vT (r53.s_), vI (r53.at_), vI (r53.e_), sl Am04u57 (r53.sorts_) cm04u57, sl Am05u57 (r53.texts_) cm05u57]) s 1000 rfl rfl rfl rfl rfl rfl rfl rfl ?_); clear s; intro w hK s; clear hK
   apply wN
   apply wQ
   obtain ⟨r58, hr58, hg⟩ := bind_some hg
   apply wL
   refine qq s rfl (y_loadAll (kk := 1000) s rfl rfl underlying82 rfl rfl) fun a s => ?_
   have hT := s.pk [(1000, 1000), (1001, 1001), (700107, 700107), (9200003, 700109), (9200004, 700111)] (by decide)
   replace hT := hT.al 9300003 124 rfl
   replace hT := hT.al 9300004 125 rfl
   refine l_seq rfl (l_callMut (cap := []) hT _ [] (sbA (by rfl)) trivial (by rfl) rfl func67 rfl (by kernel_rfl) rfl rfl (c_r39_variableOf n _ _ (hT.restLt [1000, 1001, 700107]) _ r53 (Am04u57) (cm04u57) (Am05u57) (cm05u57) (csm0_3u57) (csm0_4u57) (by omega) (hT.wd.lendL _ _ _ (sbA (by rfl)) (keep_sub [1000, 1001, 700107]) (by rfl) (sbA (by rfl))) r58 hr58) ?_); intro v61 a' w' hK hp hF
   obtain ⟨Am04u62, cm04u62, csm0_3u62, Am05u62, cm05u62, csm0_4u62, rfl, lm01u62, hWu62⟩ := hp
   have hS2 := St.mk hF (hT.wd.back (sbA (by rfl)) (keep_sub [1000, 1001, 700107]) (by rfl) hWu62 (by rfl))
   clear s hT hF hWu62 hK; revert hS2; revert w'; revert a'; intro a w s
   replace s := s.al 128 9300003 rfl
   replace s := s.al 129 9300004 rfl
   replace s := s.ren [(1000, Ob.box b3 [vT (r53.s_), vI (r53.at_), vI (r53.e_), sl Am04u57 (r53.sorts_) cm04u57, sl Am05u57 (r53.texts_) cm05u57] 82), (1001, Ob.box b4 [vT ([]), vI 0, vI 0, .slice (none) (0) (0), .slice (none) (0) (0)] 82), (700107, Ob.row (A24) ((out_23).length) (c25) 45 2 (cs26)), (700109, Ob.row (Am04u62) ((r58.1.sorts_).length) (cm04u62) 9 1 (csm0_3u62)), (700111, Ob.row (Am05u62) ((r58.1.texts_).length) (cm05u62) 9 1 (csm0_4u62))] [1000, 1001, 700107, 9200003, 9200004] ⟨rfl, rfl, rfl, rfl, rfl, trivial⟩ (by decide)
   refine mv s rfl rfl fun a s => ?_
   refine qq s rfl (y_extract s rfl rfl) fun a s => ?_
   refine qq s rfl (y_extract s rfl rfl) fun a s => ?_
   refine l_seq rfl (l_store (n := 5) (cs' := [vT (r58.1.s_), vI (r58.1.at_), vI (r58.1.e_), sl Am04u62 (r58.1.sorts_) cm04u62, sl Am05u62 (r58.1.texts_) cm05u62]) s 1000 rfl rfl rfl rfl rfl rfl rfl rfl ?_); clear s; intro w hK s; clear hK
   refine asg s rfl rfl fun a s => ?_
   apply wN
   apply wQ
   obtain ⟨hk64, hg⟩ := chk_some hg
   apply wL
   refine mv s rfl rfl fun a s => ?_
   refine mv s rfl rfl fun a s => ?_
   refine mv s rfl rfl fun a s => ?_
   refine qq s rfl (y_build (parts := [(0, .tmp 34), (1, .tmp 35)]) (ps := [(0, vT (r48.2)), (1, vI (r58.2))]) (cells := #[vT (r48.2), vI (r58.2)]) s rfl (by kernel_rfl)) fun a s => ?_
   refine l_seq rfl (l_buildDense (sz := 2) s 1804 rfl rfl rfl underlying41 rfl rfl rfl rfl rfl rfl rfl fun b67 a w hbb67 hK s => ?_)
   clear hbb67
   replace s := s.add 132 (rdF RArg (cellsOfL [.agg #[vT (r48.2), vI (r58.2)]]) ([(Arg.mk r48.2 r58.2)])) (RdAll.cons (by exact (RArg.mk' (x := (Arg.mk r48.2 r58.2)) (by omega))) (RdAll.nil _ _ _))
   have hs69 := row_src (s.wd.holds 1804 _ rfl) (RdAll.one (s.ft 132 rfl))
   refine l_seq rfl (l_append (sz := 2) (by_ := 24) (N := (out_23 ++ [(Arg.mk r48.2 r58.2)]).length) (ys := cs26 ++ (cellsOfL [.agg #[vT (r48.2), vI (r58.2)]])) s 700107 rfl rfl rfl underlying41 rfl rfl rfl rfl rfl hs69 (by simp) rfl (by have hr := hk64; clear hg; first | omega | (simp only [List.length_append, List.length_cons, List.length_nil] at hr ⊢; omega) | (simp at hr ⊢; omega)) (by have hr := hk64; clear hg; first | omega | (simp only [List.length_append, List.length_cons, List.length_nil] at hr ⊢; omega) | (simp at hr ⊢; omega)) rfl fun Aq68 cq68 a w hA hK s => ?_)
   replace s := s.add 133 (rdF RArg (cs26 ++ (cellsOfL [.agg #[vT (r48.2), vI (r58.2)]])) (out_23 ++ [(Arg.mk r48.2 r58.2)])) (RdAll.append (s.ft 108 rfl) (s.ft 132 rfl))
   refine asg s rfl rfl fun a s => ?_
   apply wN
   apply wQ
   apply wQ
   obtain ⟨r70, hr70, hg⟩ := bind_some hg
   apply wL
   refine qq s rfl (y_loadAll (kk := 1000) s rfl rfl underlying82 rfl rfl) fun a s => ?_
   have hT := s
   replace hT := hT.fz (R := Rep.str) (kk := 700109) [1000, 1001, 1804, 700107, 700111] 136 rfl rfl (hT.ft 128 rfl) rfl
   replace hT := hT.fz (R := Rep.str) (kk := 700111) [1000, 1001, 1804, 700107] 137 rfl rfl (hT.ft 129 rfl) rfl
   refine l_seq rfl (l_call (cap := []) s rfl func83 rfl (by kernel_rfl) rfl rfl (c_r39_next n _ _ hT.lt r58.1 (Am04u62) (cm04u62) (Am05u62) (cm05u62) (by omega) (hT.ft 136 rfl) (hT.ft 137 rfl) (44 : UInt8) r70 hr70) fun v73 a w hK hp s => ?_)
   obtain rfl := hp
   refine qq s rfl (y_not s rfl) fun a s => ?_
   apply wN
   refine c_cond s rfl (fun hc75 => ?_) (fun hc75 => ?_)
   ·replace hg := br_t hg hc75
    apply wp_exit
    refine p_then ?_
    refine p_out rfl ?_
    refine p_then ?_
    refine p_in ?_
    apply pN
    replace s := s.add 102 (rdF RArg (cs26 ++ (cellsOfL [.agg #[vT (r48.2), vI (r58.2)]])) (out_23 ++ [(Arg.mk r48.2 r58.2)])) (s.ft 133 rfl)
    replace s := s.al 104 128 rfl
    replace s := s.al 106 129 rfl
    replace s := s.pk [(1000, 1000), (1001, 1001), (1804, 1804), (700101, 700107), (700103, 700109), (700105, 700111)] (by decide)
    exact ⟨(out_23 ++ [(Arg.mk r48.2 r58.2)]), (r58.1.s_), (r58.1.at_), (r58.1.e_), (r58.1.sorts_), (r58.1.texts_), (Aq68), (cq68), (cs26 ++ (cellsOfL [.agg #[vT (r48.2), vI (r58.2)]])), (Am04u62), (cm04u62), (csm0_3u62), (Am05u62), (cm05u62), (csm0_4u62), hg, (by omega), (s.sb rfl rfl rfl)⟩
   replace hg := br_n hg hc75
   apply wp_skip
   apply pN
   obtain ⟨r76, hr76, hg⟩ := bind_some hg
   apply wL
   refine qq s rfl (y_loadAll (kk := 1000) s rfl rfl underlying82 rfl rfl) fun a s => ?_
   have hT := s.pk [(1000, 1000), (1001, 1001), (1804, 1804), (700107, 700107), (9200003, 700109), (9200004, 700111)] (by decide)
   replace hT := hT.al 9300003 128 rfl
   replace hT := hT.al 9300004 129 rfl
   refine l_seq rfl (l_callMut (cap := []) hT _ [] (sbA (by rfl)) trivial (by rfl) rfl func68 rfl (by kernel_rfl) rfl rfl (c_r39_word n _ _ (hT.restLt [1000, 1001, 1804, 700107]) _ r58.1 (Am04u62) (cm04u62) (Am05u62) (cm05u62) (csm0_3u62) (csm0_4u62) (by omega) [44, 32] (by first | omega | (rw [List.length_append]; omega) | (simp only [List.length_append]; omega) | (simp only [List.length_append, List.length_take, List.length_drop, List.length_cons, List.length_nil]; omega)) (hT.wd.lendL _ _ _ (sbA (by rfl)) (keep_sub [1000, 1001, 1804, 700107]) (by rfl) (sbA (by rfl))) r76 hr76) ?_); intro v79 a' w' hK hp hF
   obtain ⟨Am04u80, cm04u80, csm0_3u80, Am05u80, cm05u80, csm0_4u80, rfl, lm01u80, hWu80⟩ := hp
   have hS2 := St.mk hF (hT.wd.back (sbA (by rfl)) (keep_sub [1000, 1001, 1804, 700107]) (by rfl) hWu80 (by rfl))
   clear s hT hF hWu80 hK; revert hS2; revert w'; revert a'; intro a w s
   replace s := s.al 140 9300003 rfl
   replace s := s.al 141 9300004 rfl
   replace s := s.ren [(1000, Ob.box b3 [vT (r58.1.s_), vI (r58.1.at_), vI (r58.1.e_), sl Am04u62 (r58.1.sorts_) cm04u62, sl Am05u62 (r58.1.texts_) cm05u62] 82), (1001, Ob.box b4 [vT ([]), vI 0, vI 0, .slice (none) (0) (0), .slice (none) (0) (0)] 82), (1804, Ob.row (some ⟨b67, 0, none⟩) (1) (1) 45 2 (cellsOfL [.agg #[vT (r48.2), vI (r58.2)]])), (700107, Ob.row (Aq68) ((out_23 ++ [(Arg.mk r48.2 r58.2)]).length) (cq68) 45 2 (cs26 ++ (cellsOfL [.agg #[vT (r48.2), vI (r58.2)]]))), (700109, Ob.row (Am04u80) ((r76.sorts_).length) (cm04u80) 9 1 (csm0_3u80)), (700111, Ob.row (Am05u80) ((r76.texts_).length) (cm05u80) 9 1 (csm0_4u80))] [1000, 1001, 1804, 700107, 9200003, 9200004] ⟨rfl, rfl, rfl, rfl, rfl, rfl, trivial⟩ (by decide)
   refine l_seq rfl (l_store (n := 5) (cs' := [vT (r76.s_), vI (r76.at_), vI (r76.e_), sl Am04u80 (r76.sorts_) cm04u80, sl Am05u80 (r76.texts_) cm05u80]) s 1000 rfl rfl rfl rfl rfl rfl rfl rfl ?_); clear s; intro w hK s; clear hK
   apply wO
   refine p_inN ?_
   apply pN
   replace s := s.add 108 (rdF RArg (cs26 ++ (cellsOfL [.agg #[vT (r48.2), vI (r58.2)]])) (out_23 ++ [(Arg.mk r48.2 r58.2)])) (s.ft 133 rfl)
   replace s := s.al 110 140 rfl
   replace s := s.al 112 141 rfl
   exact ⟨m1, Nat.lt_succ_self _, ⟨(out_23 ++ [(Arg.mk r48.2 r58.2)]), (r76.s_), (r76.at_), (r76.e_), (r76.sorts_), (r76.texts_), (Aq68), (cq68), (cs26 ++ (cellsOfL [.agg #[vT (r48.2), vI (r58.2)]])), (Am04u80), (cm04u80), (csm0_3u80), (Am05u80), (cm05u80), (csm0_4u80), hg, (by omega), (s.sb rfl rfl rfl)⟩⟩
  replace hg := br_n hg hc47
  apply wp_exit
  refine p_then ?_
  refine p_then ?_
  refine p_in ?_
  apply pN
  replace s := s.al 102 108 rfl
  replace s := s.al 104 110 rfl
  replace s := s.al 106 112 rfl
  replace s := s.pk [(1000, 1000), (1001, 1001), (700101, 700107), (700103, 700109), (700105, 700111)] (by decide)
  exact ⟨(out_23), (r_27), (r_28), (r_29), (r_30), (r_34), (A24), (c25), (cs26), (A31), (c32), (cs33), (A35), (c36), (cs37), hg, (by omega), (s.sb rfl rfl rfl)⟩
 clear s a; rintro a w ⟨out_8, r_12, r_13, r_14, r_15, r_19, A9, c10, cs11, A16, c17, cs18, A20, c21, cs22, hg, lr_12, s⟩
 subst hk7
 apply wQ
 obtain ⟨r81, hr81, hg⟩ := bind_some hg
 apply wL
 refine qq s rfl (y_loadAll (kk := 1000) s rfl rfl underlying82 rfl rfl) fun a s => ?_
 have hT := s.pk [(1000, 1000), (1001, 1001), (700101, 700101), (9200003, 700103), (9200004, 700105)] (by decide)
 replace hT := hT.al 9300003 104 rfl
 replace hT := hT.al 9300004 106 rfl
 refine l_seq rfl (l_callMut (cap := []) hT _ [] (sbA (by rfl)) trivial (by rfl) rfl func68 rfl (by kernel_rfl) rfl rfl (c_r39_word n _ _ (hT.restLt [1000, 1001, 700101]) _ (reader.mk r_12 r_13 r_14 r_15 r_19) (A16) (c17) (A20) (c21) (cs18) (cs22) (by omega) [41] (by first | omega | (rw [List.length_append]; omega) | (simp only [List.length_append]; omega) | (simp only [List.length_append, List.length_take, List.length_drop, List.length_cons, List.length_nil]; omega)) (hT.wd.lendL _ _ _ (sbA (by rfl)) (keep_sub [1000, 1001, 700101]) (by rfl) (sbA (by rfl))) r81 hr81) ?_); intro v84 a' w' hK hp hF
 obtain ⟨Am04u85, cm04u85, csm0_3u85, Am05u85, cm05u85, csm0_4u85, rfl, lm01u85, hWu85⟩ := hp
 have hS2 := St.mk hF (hT.wd.back (sbA (by rfl)) (keep_sub [1000, 1001, 700101]) (by rfl) hWu85 (by rfl))
 clear s hT hF hWu85 hK; revert hS2; revert w'; revert a'; intro a w s
 replace s := s.al 144 9300003 rfl
 replace s := s.al 145 9300004 rfl
 replace s := s.ren [(1000, Ob.box b3 [vT r_12, vI r_13, vI r_14, sl A16 (r_15) c17, sl A20 (r_19) c21] 82), (1001, Ob.box b4 [vT ([]), vI 0, vI 0, .slice (none) (0) (0), .slice (none) (0) (0)] 82), (700101, Ob.row (A9) ((out_8).length) (c10) 45 2 (cs11)), (700103, Ob.row (Am04u85) ((r81.sorts_).length) (cm04u85) 9 1 (csm0_3u85)), (700105, Ob.row (Am05u85) ((r81.texts_).length) (cm05u85) 9 1 (csm0_4u85))] [1000, 1001, 700101, 9200003, 9200004] ⟨rfl, rfl, rfl, rfl, rfl, trivial⟩ (by decide)
 refine mv s rfl rfl fun a s => ?_
 refine l_seq rfl (l_store (n := 5) (cs' := [vT (r81.s_), vI (r81.at_), vI (r81.e_), sl Am04u85 (r81.sorts_) cm04u85, sl Am05u85 (r81.texts_) cm05u85]) s 1001 rfl rfl rfl rfl rfl rfl rfl rfl ?_); clear s; intro w hK s; clear hK
 refine asg s rfl rfl fun a s => ?_
 apply wN
 apply wp_ret
 replace s := s.freeze (R := RArg) (kk := 700101) (L' := [(1000, Ob.box b3 [vT r_12, vI r_13, vI r_14, sl A16 (r_15) c17, sl A20 (r_19) c21] 82), (1001, Ob.box b4 [vT (r81.s_), vI (r81.at_), vI (r81.e_), sl Am04u85 (r81.sorts_) cm04u85, sl Am05u85 (r81.texts_) cm05u85] 82), (700103, Ob.row (Am04u85) ((r81.sorts_).length) (cm04u85) 9 1 (csm0_3u85)), (700105, Ob.row (Am05u85) ((r81.texts_).length) (cm05u85) 9 1 (csm0_4u85))]) 146 rfl rfl (s.ft 102 rfl) ⟨rfl, rfl, rfl, rfl, trivial⟩ rfl
 replace s := s.al 9300003 144 rfl
 replace s := s.al 9300004 145 rfl
 replace s := s.al 9500100 146 rfl
 obtain rfl := Option.some.inj hg
 refine fin2 (fn := Tryz.f85) s rfl (r_cell (kk := 1001) (n := 5) (vs := [vT (r81.s_), vI (r81.at_), vI (r81.e_), sl Am04u85 (r81.sorts_) cm04u85, sl Am05u85 (r81.texts_) cm05u85]) s rfl rfl underlying82 rfl rfl rfl rfl) (r_tmp s rfl) ?_
 exact ⟨(Am04u85), (cm04u85), (csm0_3u85), (Am05u85), (cm05u85), (csm0_4u85), (A9), (c10), rfl, (by omega), ((s.ren [(9200003, Ob.row (Am04u85) ((r81.sorts_).length) (cm04u85) 9 1 (csm0_3u85)), (9200004, Ob.row (Am05u85) ((r81.texts_).length) (cm05u85) 9 1 (csm0_4u85))] [700103, 700105] ⟨rfl, rfl, trivial⟩ (by decide)).outL ⟨rfl, rfl, trivial⟩ ⟨rfl, rfl, rfl, trivial⟩)⟩
set_option maxHeartbeats 400000 in
theorem c_r39_predications (n : Nat) (M : Bs) (w0 : World) (hM : ∀ b, M b → b < w0.heap.size) (C : Bs) (r_ : reader) (Ap04 : Option Addr) (cp04 : Nat) (Ap05 : Option Addr) (cp05 : Nat) (csp03 : List Value) (csp04 : List Value) (lp01 : (r_.s_).length ≤ 9223372036854775807) (hW : Wd ⟨0, M, C, w0⟩ [(9200003, Ob.row (Ap04) ((r_.sorts_).length) (cp04) 9 1 (csp03)), (9200004, Ob.row (Ap05) ((r_.texts_).length) (cp05) 9 1 (csp04))] [(9300003, rdF Rep.str (csp03) (r_.sorts_)), (9300004, rdF Rep.str (csp04) (r_.texts_))] w0) (r : (reader × (List EP))) (hg : r39_predications n r_ = some r) :
    Calls Tryz.prog 69 [.agg #[.string (bs (r_.s_)), .int .i64 (r_.at_), .int .i64 (r_.e_), .slice (Ap04) ((r_.sorts_).length) (cp04), .slice (Ap05) ((r_.texts_).length) (cp05)]].toArray w0 (Ret C w0 fun v w => ∃ (Am04 : Option Addr), ∃ (cm04 : Nat), ∃ (csm0_3 : List Value), ∃ (Am05 : Option Addr), ∃ (cm05 : Nat), ∃ (csm0_4 : List Value), ∃ (Ab1 : Option Addr), ∃ (cb1 : Nat), v = .tuple #[.agg #[.string (bs (r.1.s_)), .int .i64 (r.1.at_), .int .i64 (r.1.e_), .slice (Am04) ((r.1.sorts_).length) (cm04), .slice (Am05) ((r.1.texts_).length) (cm05)], .slice (Ab1) ((r.2).length) (cb1)] ∧ ((r.1.s_).length ≤ 9223372036854775807) ∧ (Wd ⟨0, M, C, w0⟩ [(9200003, Ob.row (Am04) ((r.1.sorts_).length) (cm04) 9 1 (csm0_3)), (9200004, Ob.row (Am05) ((r.1.texts_).length) (cm05) 9 1 (csm0_4))] [(9300003, rdF Rep.str (csm0_3) (r.1.sorts_)), (9300004, rdF Rep.str (csm0_4) (r.1.texts_)), (9500100, slF REP (Ab1) ((r.2).length) (cb1) (r.2))] w)) := by
 unfold r39_predications at hg
 refine enterL M C func69 rfl rfl hW ?_
 intro a s
 apply wR
 refine l_seq rfl (l_box (zs := [vT (r_.s_), vI (r_.at_), vI (r_.e_), sl Ap04 (r_.sorts_) cp04, sl Ap05 (r_.texts_) cp05]) s 1000 rfl rfl rfl rfl fun b3 a w hb hK s => ?_)
 refine l_seq rfl (l_alloc (zs := [vT ([]), vI 0, vI 0, .slice (none) (0) (0), .slice (none) (0) (0)]) s 1001 rfl rfl rfl rfl fun b4 a w hb hK s => ?_)
 refine asg s rfl rfl fun a s => ?_
 apply wN
 apply wR
 refine l_seq rfl (l_buildEmpty (sz := 3) s 1100 underlying23 rfl rfl rfl fun b6 a w hbb6 hK s => ?_)
 clear hbb6
 refine asg s rfl rfl fun a s => ?_
 apply wN
 apply wQ
 obtain ⟨k7, hg, hk7⟩ := jn_some hg
 refine c_post (fun a w => ∃ (out_8 : (List EP)) (r_12 : (List UInt8)) (r_13 : Int) (r_14 : Int) (r_15 : (List (List UInt8))) (r_19 : (List (List UInt8))) (A9 : Option Addr) (c10 : Nat) (cs11 : List Value) (A16 : Option Addr) (c17 : Nat) (cs18 : List Value) (A20 : Option Addr) (c21 : Nat) (cs22 : List Value), k7 out_8 r_12 r_13 r_14 r_15 r_19 = some r ∧ ((r_12).length ≤ 9223372036854775807) ∧ St (⟨Tryz.f69.ntmps, M, C, w0⟩ : Ctx) [(1, vP b3 0), (2, vP b4 0), (4, sl A9 (out_8) c10)] [(1000, Ob.box b3 [vT r_12, vI r_13, vI r_14, sl A16 (r_15) c17, sl A20 (r_19) c21] 82), (1001, Ob.box b4 [vT ([]), vI 0, vI 0, .slice (none) (0) (0), .slice (none) (0) (0)] 82), (700101, Ob.row (A9) ((out_8).length) (c10) 43 3 (cs11)), (700103, Ob.row (A16) ((r_15).length) (c17) 9 1 (cs18)), (700105, Ob.row (A20) ((r_19).length) (c21) 9 1 (cs22))] [(102, rdF REP (cs11) (out_8)), (104, rdF Rep.str (cs18) (r_15)), (106, rdF Rep.str (cs22) (r_19))] a w) ?_ ?_
 ·apply wp_block
  replace s := s.add 113 (rdF REP ([]) ([])) (RdAll.nil _ _ _)
  replace s := s.al 108 113 rfl
  replace s := s.al 110 9300003 rfl
  replace s := s.al 112 9300004 rfl
  replace s := s.pk [(1000, 1000), (1001, 1001), (700107, 1100), (700109, 9200003), (700111, 9200004)] (by decide)
  refine c_loop (σ := Nat) (fun m1 a w => ∃ (out_23 : (List EP)) (r_27 : (List UInt8)) (r_28 : Int) (r_29 : Int) (r_30 : (List (List UInt8))) (r_34 : (List (List UInt8))) (A24 : Option Addr) (c25 : Nat) (cs26 : List Value) (A31 : Option Addr) (c32 : Nat) (cs33 : List Value) (A35 : Option Addr) (c36 : Nat) (cs37 : List Value), r39_predications_L0 n k7 m1 out_23 r_27 r_28 r_29 r_30 r_34 = some r ∧ ((r_27).length ≤ 9223372036854775807) ∧ St (⟨Tryz.f69.ntmps, M, C, w0⟩ : Ctx) [(1, vP b3 0), (2, vP b4 0), (4, sl A24 (out_23) c25)] [(1000, Ob.box b3 [vT r_27, vI r_28, vI r_29, sl A31 (r_30) c32, sl A35 (r_34) c36] 82), (1001, Ob.box b4 [vT ([]), vI 0, vI 0, .slice (none) (0) (0), .slice (none) (0) (0)] 82), (700107, Ob.row (A24) ((out_23).length) (c25) 43 3 (cs26)), (700109, Ob.row (A31) ((r_30).length) (c32) 9 1 (cs33)), (700111, Ob.row (A35) ((r_34).length) (c36) 9 1 (cs37))] [(108, rdF REP (cs26) (out_23)), (110, rdF Rep.str (cs33) (r_30)), (112, rdF Rep.str (cs37) (r_34))] a w) (fun m1 => m1) n ⟨([]), (r_.s_), (r_.at_), (r_.e_), (r_.sorts_), (r_.texts_), (some ⟨b6, 0, none⟩), (0), ([]), (Ap04), (cp04), (csp03), (Ap05), (cp05), (csp04), hg, (by omega), (s.sb rfl rfl rfl)⟩ ?_
  clear s a; rintro m1 a w ⟨out_23, r_27, r_28, r_29, r_30, r_34, A24, c25, cs26, A31, c32, cs33, A35, c36, cs37, hg, lr_27, s⟩
  rcases m1 with _ | m1
  ·rw [r39_predications_L0] at hg; cases hg
  rw [r39_predications_L0] at hg
  apply wQ
  apply wQ
  obtain ⟨k38, hg, hk38⟩ := jn_some hg
  refine c_post (fun a w => ∃ (t_39 : Bool), k38 t_39 = some r ∧ St (⟨Tryz.f69.ntmps, M, C, w0⟩ : Ctx) [(1, vP b3 0), (2, vP b4 0), (4, sl A24 (out_23) c25), (21, .bool (t_39))] [(1000, Ob.box b3 [vT r_27, vI r_28, vI r_29, sl A31 (r_30) c32, sl A35 (r_34) c36] 82), (1001, Ob.box b4 [vT ([]), vI 0, vI 0, .slice (none) (0) (0), .slice (none) (0) (0)] 82), (700107, Ob.row (A24) ((out_23).length) (c25) 43 3 (cs26)), (700109, Ob.row (A31) ((r_30).length) (c32) 9 1 (cs33)), (700111, Ob.row (A35) ((r_34).length) (c36) 9 1 (cs37))] [(108, rdF REP (cs26) (out_23)), (110, rdF Rep.str (cs33) (r_30)), (112, rdF Rep.str (cs37) (r_34))] a w) ?_ ?_
  ·rcases Decidable.em (r_29 = 0) with hs40 | hs40
   ·have hs40e := decide_eq_true hs40
    replace hg := br_t hg hs40
    rcases Decidable.em (((out_23).length) = 0) with hs41 | hs41
    ·have hs41e := decide_eq_true hs41
     replace hg := br_t hg hs41
     obtain ⟨r42, hr42, hg⟩ := bind_some hg
     apply wL
     refine qq s rfl (y_boxField (o' := 2) s rfl underlying82 rfl rfl rfl) fun a s => ?_
     refine qq s rfl (y_loadBox1 (kk := 1000) s rfl rfl rfl underlying36 rfl) fun a s => ?_
     refine qq s rfl (yl_b (y_eql s rfl rfl) hs40e) fun a s => ?_
     refine mv s rfl rfl fun a s => ?_
     refine gm s rfl rfl fun a s => ?_
     refine gy s rfl (y_lenSlice s rfl underlying23) fun a s => ?_
     refine gy s rfl (yl_b (y_eqlN (i := ((out_23).length)) (j := 0) s rfl rfl) hs41e) fun a s => ?_
     refine gm s rfl rfl fun a s => ?_
     refine gy s rfl (y_loadAll (kk := 1000) s rfl rfl underlying82 rfl rfl) fun a s => ?_
     have hT := s
     replace hT := hT.fz (R := Rep.str) (kk := 700109) [1000, 1001, 700107, 700111] 116 rfl rfl (hT.ft 110 rfl) rfl
     replace hT := hT.fz (R := Rep.str) (kk := 700111) [1000, 1001, 700107] 117 rfl rfl (hT.ft 112 rfl) rfl
     refine gl s rfl (l_call (cap := []) s rfl func83 rfl (by kernel_rfl) rfl rfl (c_r39_next n _ _ hT.lt (reader.mk r_27 r_28 r_29 r_30 r_34) (A31) (c32) (A35) (c36) (by omega) (hT.ft 116 rfl) (hT.ft 117 rfl) (125 : UInt8) r42 hr42) fun v45 a w hK hp s => ?_)
     obtain rfl := hp
     refine gy s rfl (y_pick_t s rfl rfl) fun a s => ?_
     refine gy s rfl (y_not s rfl) fun a s => ?_
     refine qq s rfl (y_pick_t s rfl rfl) fun a s => ?_
     apply wN
     exact ⟨(!(r42)), hg, (s.sb rfl rfl rfl)⟩
    have hs41e := decide_eq_false hs41
    replace hg := br_f hg hs41
    apply wL
    refine qq s rfl (y_boxField (o' := 2) s rfl underlying82 rfl rfl rfl) fun a s => ?_
    refine qq s rfl (y_loadBox1 (kk := 1000) s rfl rfl rfl underlying36 rfl) fun a s => ?_
    refine qq s rfl (yl_b (y_eql s rfl rfl) hs40e) fun a s => ?_
    refine mv s rfl rfl fun a s => ?_
    refine gm s rfl rfl fun a s => ?_
    refine gy s rfl (y_lenSlice s rfl underlying23) fun a s => ?_
    refine gy s rfl (yl_b (y_eqlN (i := ((out_23).length)) (j := 0) s rfl rfl) hs41e) fun a s => ?_
    refine gm s rfl rfl fun a s => ?_
    refine gn s rfl fun a s => ?_
    refine gn s rfl fun a s => ?_
    refine gy s rfl (y_pick_f s rfl rfl) fun a s => ?_
    refine gy s rfl (y_not s rfl) fun a s => ?_
    refine qq s rfl (y_pick_t s rfl rfl) fun a s => ?_
    apply wN
    exact ⟨(true), hg, (s.sb rfl rfl rfl)⟩
   have hs40e := decide_eq_false hs40
   replace hg := br_f hg hs40
   apply wL
   refine qq s rfl (y_boxField (o' := 2) s rfl underlying82 rfl rfl rfl) fun a s => ?_
   refine qq s rfl (y_loadBox1 (kk := 1000) s rfl rfl rfl underlying36 rfl) fun a s => ?_
   refine qq s rfl (yl_b (y_eql s rfl rfl) hs40e) fun a s => ?_
   refine mv s rfl rfl fun a s => ?_
   refine gn s rfl fun a s => ?_
   refine gn s rfl fun a s => ?_
   refine gn s rfl fun a s => ?_
   refine gn s rfl fun a s => ?_
   refine gn s rfl fun a s => ?_
   refine gn s rfl fun a s => ?_
   refine gn s rfl fun a s => ?_
   refine gn s rfl fun a s => ?_
   refine qq s rfl (y_pick_f s rfl rfl) fun a s => ?_
   apply wN
   exact ⟨(false), hg, (s.sb rfl rfl rfl)⟩
  clear s a; rintro a w ⟨t_39, hg, s⟩
  subst hk38
  refine c_cond s rfl (fun hc47 => ?_) (fun hc47 => ?_)
  ·replace hg := br_t hg hc47
   apply wp_skip
   apply pN
   apply wp_block
   apply wR
   refine asg s rfl rfl fun a s => ?_
   apply wN
   apply wR
   refine asg s rfl rfl fun a s => ?_
   apply wN
   apply wR
   refine l_seq rfl (l_buildEmpty (sz := 2) s 1500 underlying41 rfl rfl rfl fun b49 a w hbb49 hK s => ?_)
   clear hbb49
   refine asg s rfl rfl fun a s => ?_
   apply wN
   apply wQ
   obtain ⟨r50, hr50, hg⟩ := bind_some hg
   apply wL
   refine qq s rfl (y_loadAll (kk := 1000) s rfl rfl underlying82 rfl rfl) fun a s => ?_
   have hT := s.pk [(1000, 1000), (1001, 1001), (1500, 1500), (700107, 700107), (9200003, 700109), (9200004, 700111)] (by decide)
   replace hT := hT.al 9300003 110 rfl
   replace hT := hT.al 9300004 112 rfl
   refine l_seq rfl (l_callMut (cap := []) hT _ [] (sbA (by rfl)) trivial (by rfl) rfl func67 rfl (by kernel_rfl) rfl rfl (c_r39_variableOf n _ _ (hT.restLt [1000, 1001, 1500, 700107]) _ (reader.mk r_27 r_28 r_29 r_30 r_34) (A31) (c32) (A35) (c36) (cs33) (cs37) (by omega) (hT.wd.lendL _ _ _ (sbA (by rfl)) (keep_sub [1000, 1001, 1500, 700107]) (by rfl) (sbA (by rfl))) r50 hr50) ?_); intro v53 a' w' hK hp hF
   obtain ⟨Am04u54, cm04u54, csm0_3u54, Am05u54, cm05u54, csm0_4u54, rfl, lm01u54, hWu54⟩ := hp
   have hS2 := St.mk hF (hT.wd.back (sbA (by rfl)) (keep_sub [1000, 1001, 1500, 700107]) (by rfl) hWu54 (by rfl))
   clear s hT hF hWu54 hK; revert hS2; revert w'; revert a'; intro a w s
   replace s := s.al 120 9300003 rfl
   replace s := s.al 121 9300004 rfl
   replace s := s.ren [(1000, Ob.box b3 [vT r_27, vI r_28, vI r_29, sl A31 (r_30) c32, sl A35 (r_34) c36] 82), (1001, Ob.box b4 [vT ([]), vI 0, vI 0, .slice (none) (0) (0), .slice (none) (0) (0)] 82), (1500, Ob.row (some ⟨b49, 0, none⟩) (0) (0) 45 2 ([])), (700107, Ob.row (A24) ((out_23).length) (c25) 43 3 (cs26)), (700109, Ob.row (Am04u54) ((r50.1.sorts_).length) (cm04u54) 9 1 (csm0_3u54)), (700111, Ob.row (Am05u54) ((r50.1.texts_).length) (cm05u54) 9 1 (csm0_4u54))] [1000, 1001, 1500, 700107, 9200003, 9200004] ⟨rfl, rfl, rfl, rfl, rfl, rfl, trivial⟩ (by decide)
   refine mv s rfl rfl fun a s => ?_
   refine qq s rfl (y_extract s rfl rfl) fun a s => ?_
   refine qq s rfl (y_extract s rfl rfl) fun a s => ?_
   refine l_seq rfl (l_store (n := 5) (cs' := [vT (r50.1.s_), vI (r50.1.at_), vI (r50.1.e_), sl Am04u54 (r50.1.sorts_) cm04u54, sl Am05u54 (r50.1.texts_) cm05u54]) s 1000 rfl rfl rfl rfl rfl rfl rfl rfl ?_); clear s; intro w hK s; clear hK
   refine asg s rfl rfl fun a s => ?_
   apply wN
   apply wQ
   obtain ⟨r55, hr55, hg⟩ := bind_some hg
   apply wL
   refine qq s rfl (y_loadAll (kk := 1000) s rfl rfl underlying82 rfl rfl) fun a s => ?_
   have hT := s.pk [(1000, 1000), (1001, 1001), (1500, 1500), (700107, 700107), (9200003, 700109), (9200004, 700111)] (by decide)
   replace hT := hT.al 9300003 120 rfl
   replace hT := hT.al 9300004 121 rfl
   refine l_seq rfl (l_callMut (cap := []) hT _ [] (sbA (by rfl)) trivial (by rfl) rfl func68 rfl (by kernel_rfl) rfl rfl (c_r39_word n _ _ (hT.restLt [1000, 1001, 1500, 700107]) _ r50.1 (Am04u54) (cm04u54) (Am05u54) (cm05u54) (csm0_3u54) (csm0_4u54) (by omega) [58] (by first | omega | (rw [List.length_append]; omega) | (simp only [List.length_append]; omega) | (simp only [List.length_append, List.length_take, List.length_drop, List.length_cons, List.length_nil]; omega)) (hT.wd.lendL _ _ _ (sbA (by rfl)) (keep_sub [1000, 1001, 1500, 700107]) (by rfl) (sbA (by rfl))) r55 hr55) ?_); intro v58 a' w' hK hp hF
   obtain ⟨Am04u59, cm04u59, csm0_3u59, Am05u59, cm05u59, csm0_4u59, rfl, lm01u59, hWu59⟩ := hp
   have hS2 := St.mk hF (hT.wd.back (sbA (by rfl)) (keep_sub [1000, 1001, 1500, 700107]) (by rfl) hWu59 (by rfl))
   clear s hT hF hWu59 hK; revert hS2; revert w'; revert a'; intro a w s
   replace s := s.al 124 9300003 rfl
   replace s := s.al 125 9300004 rfl
   replace s := s.ren [(1000, Ob.box b3 [vT (r50.1.s_), vI (r50.1.at_), vI (r50.1.e_), sl Am04u54 (r50.1.sorts_) cm04u54, sl Am05u54 (r50.1.texts_) cm05u54] 82), (1001, Ob.box b4 [vT ([]), vI 0, vI 0, .slice (none) (0) (0), .slice (none) (0) (0)] 82), (1500, Ob.row (some ⟨b49, 0, none⟩) (0) (0) 45 2 ([])), (700107, Ob.row (A24) ((out_23).length) (c25) 43 3 (cs26)), (700109, Ob.row (Am04u59) ((r55.sorts_).length) (cm04u59) 9 1 (csm0_3u59)), (700111, Ob.row (Am05u59) ((r55.texts_).length) (cm05u59) 9 1 (csm0_4u59))] [1000, 1001, 1500, 700107, 9200003, 9200004] ⟨rfl, rfl, rfl, rfl, rfl, rfl, trivial⟩ (by decide)
   refine l_seq rfl (l_store (n := 5) (cs' := [vT (r55.s_), vI (r55.at_), vI (r55.e_), sl Am04u59 (r55.sorts_) cm04u59, sl Am05u59 (r55.texts_) cm05u59]) s 1000 rfl rfl rfl rfl rfl rfl rfl rfl ?_); clear s; intro w hK s; clear hK
   apply wN
   apply wQ
   obtain ⟨r60, hr60, hg⟩ := bind_some hg
   apply wL
   refine qq s rfl (y_loadAll (kk := 1000) s rfl rfl underlying82 rfl rfl) fun a s => ?_
   have hT := s.pk [(1000, 1000), (1001, 1001), (1500, 1500), (700107, 700107), (9200003, 700109), (9200004, 700111)] (by decide)
   replace hT := hT.al 9300003 124 rfl
   replace hT := hT.al 9300004 125 rfl
   refine l_seq rfl (l_callMut (cap := []) hT _ [] (sbA (by rfl)) trivial (by rfl) rfl func84 rfl (by kernel_rfl) rfl rfl (c_r39_run n _ _ (hT.restLt [1000, 1001, 1500, 700107]) _ r55 (Am04u59) (cm04u59) (Am05u59) (cm05u59) (csm0_3u59) (csm0_4u59) (by omega) (97 : UInt8) (122 : UInt8) (hT.wd.lendL _ _ _ (sbA (by rfl)) (keep_sub [1000, 1001, 1500, 700107]) (by rfl) (sbA (by rfl))) r60 hr60) ?_); intro v63 a' w' hK hp hF
   obtain ⟨Am04u64, cm04u64, csm0_3u64, Am05u64, cm05u64, csm0_4u64, rfl, lm01u64, lb1u64, hWu64⟩ := hp
   have hS2 := St.mk hF (hT.wd.back (sbA (by rfl)) (keep_sub [1000, 1001, 1500, 700107]) (by rfl) hWu64 (by rfl))
   clear s hT hF hWu64 hK; revert hS2; revert w'; revert a'; intro a w s
   replace s := s.al 128 9300003 rfl
   replace s := s.al 129 9300004 rfl
   replace s := s.ren [(1000, Ob.box b3 [vT (r55.s_), vI (r55.at_), vI (r55.e_), sl Am04u59 (r55.sorts_) cm04u59, sl Am05u59 (r55.texts_) cm05u59] 82), (1001, Ob.box b4 [vT ([]), vI 0, vI 0, .slice (none) (0) (0), .slice (none) (0) (0)] 82), (1500, Ob.row (some ⟨b49, 0, none⟩) (0) (0) 45 2 ([])), (700107, Ob.row (A24) ((out_23).length) (c25) 43 3 (cs26)), (700109, Ob.row (Am04u64) ((r60.1.sorts_).length) (cm04u64) 9 1 (csm0_3u64)), (700111, Ob.row (Am05u64) ((r60.1.texts_).length) (cm05u64) 9 1 (csm0_4u64))] [1000, 1001, 1500, 700107, 9200003, 9200004] ⟨rfl, rfl, rfl, rfl, rfl, rfl, trivial⟩ (by decide)
   refine mv s rfl rfl fun a s => ?_
   refine qq s rfl (y_extract s rfl rfl) fun a s => ?_
   refine qq s rfl (y_extract s rfl rfl) fun a s => ?_
   refine l_seq rfl (l_store (n := 5) (cs' := [vT (r60.1.s_), vI (r60.1.at_), vI (r60.1.e_), sl Am04u64 (r60.1.sorts_) cm04u64, sl Am05u64 (r60.1.texts_) cm05u64]) s 1000 rfl rfl rfl rfl rfl rfl rfl rfl ?_); clear s; intro w hK s; clear hK
   refine asg s rfl rfl fun a s => ?_
   apply wN
   apply wQ
   obtain ⟨r65, hr65, hg⟩ := bind_some hg
   apply wL
   refine qq s rfl (y_loadAll (kk := 1000) s rfl rfl underlying82 rfl rfl) fun a s => ?_
   have hT := s.pk [(1000, 1000), (1001, 1001), (1500, 1500), (700107, 700107), (9200003, 700109), (9200004, 700111)] (by decide)
   replace hT := hT.al 9300003 128 rfl
   replace hT := hT.al 9300004 129 rfl
   refine l_seq rfl (l_callMut (cap := []) hT _ [] (sbA (by rfl)) trivial (by rfl) rfl func68 rfl (by kernel_rfl) rfl rfl (c_r39_word n _ _ (hT.restLt [1000, 1001, 1500, 700107]) _ r60.1 (Am04u64) (cm04u64) (Am05u64) (cm05u64) (csm0_3u64) (csm0_4u64) (by omega) [40] (by first | omega | (rw [List.length_append]; omega) | (simp only [List.length_append]; omega) | (simp only [List.length_append, List.length_take, List.length_drop, List.length_cons, List.length_nil]; omega)) (hT.wd.lendL _ _ _ (sbA (by rfl)) (keep_sub [1000, 1001, 1500, 700107]) (by rfl) (sbA (by rfl))) r65 hr65) ?_); intro v68 a' w' hK hp hF
   obtain ⟨Am04u69, cm04u69, csm0_3u69, Am05u69, cm05u69, csm0_4u69, rfl, lm01u69, hWu69⟩ := hp
   have hS2 := St.mk hF (hT.wd.back (sbA (by rfl)) (keep_sub [1000, 1001, 1500, 700107]) (by rfl) hWu69 (by rfl))
   clear s hT hF hWu69 hK; revert hS2; revert w'; revert a'; intro a w s
   replace s := s.al 132 9300003 rfl
   replace s := s.al 133 9300004 rfl
   replace s := s.ren [(1000, Ob.box b3 [vT (r60.1.s_), vI (r60.1.at_), vI (r60.1.e_), sl Am04u64 (r60.1.sorts_) cm04u64, sl Am05u64 (r60.1.texts_) cm05u64] 82), (1001, Ob.box b4 [vT ([]), vI 0, vI 0, .slice (none) (0) (0), .slice (none) (0) (0)] 82), (1500, Ob.row (some ⟨b49, 0, none⟩) (0) (0) 45 2 ([])), (700107, Ob.row (A24) ((out_23).length) (c25) 43 3 (cs26)), (700109, Ob.row (Am04u69) ((r65.sorts_).length) (cm04u69) 9 1 (csm0_3u69)), (700111, Ob.row (Am05u69) ((r65.texts_).length) (cm05u69) 9 1 (csm0_4u69))] [1000, 1001, 1500, 700107, 9200003, 9200004] ⟨rfl, rfl, rfl, rfl, rfl, rfl, trivial⟩ (by decide)
   refine l_seq rfl (l_store (n := 5) (cs' := [vT (r65.s_), vI (r65.at_), vI (r65.e_), sl Am04u69 (r65.sorts_) cm04u69, sl Am05u69 (r65.texts_) cm05u69]) s 1000 rfl rfl rfl rfl rfl rfl rfl rfl ?_); clear s; intro w hK s; clear hK
   apply wN
   apply wQ
   obtain ⟨r70, hr70, hg⟩ := bind_some hg
   apply wL
   refine qq s rfl (y_loadAll (kk := 1000) s rfl rfl underlying82 rfl rfl) fun a s => ?_
   have hT := s.pk [(1000, 1000), (1001, 1001), (1500, 1500), (700107, 700107), (9200003, 700109), (9200004, 700111)] (by decide)
   replace hT := hT.al 9300003 132 rfl
   replace hT := hT.al 9300004 133 rfl
   refine l_seq rfl (l_callMut (cap := []) hT _ [] (sbA (by rfl)) trivial (by rfl) rfl func85 rfl (by kernel_rfl) rfl rfl (c_r39_arguments n _ _ (hT.restLt [1000, 1001, 1500, 700107]) _ r65 (Am04u69) (cm04u69) (Am05u69) (cm05u69) (csm0_3u69) (csm0_4u69) (by omega) (hT.wd.lendL _ _ _ (sbA (by rfl)) (keep_sub [1000, 1001, 1500, 700107]) (by rfl) (sbA (by rfl))) r70 hr70) ?_); intro v73 a' w' hK hp hF
   obtain ⟨Am04u74, cm04u74, csm0_3u74, Am05u74, cm05u74, csm0_4u74, Ab1u74, cb1u74, rfl, lm01u74, hWu74⟩ := hp
   have hS2 := St.mk hF (hT.wd.back (sbA (by rfl)) (keep_sub [1000, 1001, 1500, 700107]) (by rfl) hWu74 (by rfl))
   clear s hT hF hWu74 hK; revert hS2; revert w'; revert a'; intro a w s
   replace s := s.al 137 9300003 rfl
   replace s := s.al 138 9300004 rfl
   replace s := s.al 139 9500100 rfl
   replace s := s.ren [(1000, Ob.box b3 [vT (r65.s_), vI (r65.at_), vI (r65.e_), sl Am04u69 (r65.sorts_) cm04u69, sl Am05u69 (r65.texts_) cm05u69] 82), (1001, Ob.box b4 [vT ([]), vI 0, vI 0, .slice (none) (0) (0), .slice (none) (0) (0)] 82), (1500, Ob.row (some ⟨b49, 0, none⟩) (0) (0) 45 2 ([])), (700107, Ob.row (A24) ((out_23).length) (c25) 43 3 (cs26)), (700109, Ob.row (Am04u74) ((r70.1.sorts_).length) (cm04u74) 9 1 (csm0_3u74)), (700111, Ob.row (Am05u74) ((r70.1.texts_).length) (cm05u74) 9 1 (csm0_4u74))] [1000, 1001, 1500, 700107, 9200003, 9200004] ⟨rfl, rfl, rfl, rfl, rfl, rfl, trivial⟩ (by decide)
   refine mv s rfl rfl fun a s => ?_
   refine qq s rfl (y_extract s rfl rfl) fun a s => ?_
   refine qq s rfl (y_extract s rfl rfl) fun a s => ?_
   refine l_seq rfl (l_store (n := 5) (cs' := [vT (r70.1.s_), vI (r70.1.at_), vI (r70.1.e_), sl Am04u74 (r70.1.sorts_) cm04u74, sl Am05u74 (r70.1.texts_) cm05u74]) s 1000 rfl rfl rfl rfl rfl rfl rfl rfl ?_); clear s; intro w hK s; clear hK
   refine asg s rfl rfl fun a s => ?_
   apply wN
   apply wQ
   obtain ⟨hk76, hg⟩ := chk_some hg
   apply wL
   refine mv s rfl rfl fun a s => ?_
   refine mv s rfl rfl fun a s => ?_
   refine mv s rfl rfl fun a s => ?_
   refine mv s rfl rfl fun a s => ?_
   refine qq s rfl (y_build (parts := [(0, .tmp 43), (1, .tmp 44), (2, .tmp 45)]) (ps := [(0, vT (r60.2)), (1, vI (r50.2)), (2, sl Ab1u74 (r70.2) cb1u74)]) (cells := #[vT (r60.2), vI (r50.2), sl Ab1u74 (r70.2) cb1u74]) s rfl (by kernel_rfl)) fun a s => ?_
   refine l_seq rfl (l_buildDense (sz := 3) s 2105 rfl rfl rfl underlying23 rfl rfl rfl rfl rfl rfl rfl fun b79 a w hbb79 hK s => ?_)
   clear hbb79
   replace s := s.add 142 (rdF REP (cellsOfL [.agg #[vT (r60.2), vI (r50.2), sl Ab1u74 (r70.2) cb1u74]]) ([(EP.mk r60.2 r50.2 r70.2)])) (RdAll.cons (by exact (REP.mk' (x := (EP.mk r60.2 r50.2 r70.2)) (by omega) (s.ft 139 rfl))) (RdAll.nil _ _ _))
   have hs81 := row_src (s.wd.holds 2105 _ rfl) (RdAll.one (s.ft 142 rfl))
   refine l_seq rfl (l_append (sz := 3) (by_ := 48) (N := (out_23 ++ [(EP.mk r60.2 r50.2 r70.2)]).length) (ys := cs26 ++ (cellsOfL [.agg #[vT (r60.2), vI (r50.2), sl Ab1u74 (r70.2) cb1u74]])) s 700107 rfl rfl rfl underlying23 rfl rfl rfl rfl rfl hs81 (by simp) rfl (by have hr := hk76; clear hg; first | omega | (simp only [List.length_append, List.length_cons, List.length_nil] at hr ⊢; omega) | (simp at hr ⊢; omega)) (by have hr := hk76; clear hg; first | omega | (simp only [List.length_append, List.length_cons, List.length_nil] at hr ⊢; omega) | (simp at hr ⊢; omega)) rfl fun Aq80 cq80 a w hA hK s => ?_)
   replace s := s.add 143 (rdF REP (cs26 ++ (cellsOfL [.agg #[vT (r60.2), vI (r50.2), sl Ab1u74 (r70.2) cb1u74]])) (out_23 ++ [(EP.mk r60.2 r50.2 r70.2)])) (RdAll.append (s.ft 108 rfl) (s.ft 142 rfl))
   refine asg s rfl rfl fun a s => ?_
   apply wN
   apply wQ
   apply wQ
   obtain ⟨r82, hr82, hg⟩ := bind_some hg
   apply wL
   refine qq s rfl (y_loadAll (kk := 1000) s rfl rfl underlying82 rfl rfl) fun a s => ?_
   have hT := s
   replace hT := hT.fz (R := Rep.str) (kk := 700109) [1000, 1001, 1500, 2105, 700107, 700111] 146 rfl rfl (hT.ft 137 rfl) rfl
   replace hT := hT.fz (R := Rep.str) (kk := 700111) [1000, 1001, 1500, 2105, 700107] 147 rfl rfl (hT.ft 138 rfl) rfl
   refine l_seq rfl (l_call (cap := []) s rfl func83 rfl (by kernel_rfl) rfl rfl (c_r39_next n _ _ hT.lt r70.1 (Am04u74) (cm04u74) (Am05u74) (cm05u74) (by omega) (hT.ft 146 rfl) (hT.ft 147 rfl) (59 : UInt8) r82 hr82) fun v85 a w hK hp s => ?_)
   obtain rfl := hp
   refine qq s rfl (y_not s rfl) fun a s => ?_
   apply wN
   refine c_cond s rfl (fun hc87 => ?_) (fun hc87 => ?_)
   ·replace hg := br_t hg hc87
    apply wp_exit
    refine p_then ?_
    refine p_out rfl ?_
    refine p_then ?_
    refine p_in ?_
    apply pN
    replace s := s.add 102 (rdF REP (cs26 ++ (cellsOfL [.agg #[vT (r60.2), vI (r50.2), sl Ab1u74 (r70.2) cb1u74]])) (out_23 ++ [(EP.mk r60.2 r50.2 r70.2)])) (s.ft 143 rfl)
    replace s := s.al 104 137 rfl
    replace s := s.al 106 138 rfl
    replace s := s.pk [(1000, 1000), (1001, 1001), (1500, 1500), (2105, 2105), (700101, 700107), (700103, 700109), (700105, 700111)] (by decide)
    exact ⟨(out_23 ++ [(EP.mk r60.2 r50.2 r70.2)]), (r70.1.s_), (r70.1.at_), (r70.1.e_), (r70.1.sorts_), (r70.1.texts_), (Aq80), (cq80), (cs26 ++ (cellsOfL [.agg #[vT (r60.2), vI (r50.2), sl Ab1u74 (r70.2) cb1u74]])), (Am04u74), (cm04u74), (csm0_3u74), (Am05u74), (cm05u74), (csm0_4u74), hg, (by omega), (s.sb rfl rfl rfl)⟩
   replace hg := br_n hg hc87
   apply wp_skip
   apply pN
   obtain ⟨r88, hr88, hg⟩ := bind_some hg
   apply wL
   refine qq s rfl (y_loadAll (kk := 1000) s rfl rfl underlying82 rfl rfl) fun a s => ?_
   have hT := s.pk [(1000, 1000), (1001, 1001), (1500, 1500), (2105, 2105), (700107, 700107), (9200003, 700109), (9200004, 700111)] (by decide)
   replace hT := hT.al 9300003 137 rfl
   replace hT := hT.al 9300004 138 rfl
   refine l_seq rfl (l_callMut (cap := []) hT _ [] (sbA (by rfl)) trivial (by rfl) rfl func68 rfl (by kernel_rfl) rfl rfl (c_r39_word n _ _ (hT.restLt [1000, 1001, 1500, 2105, 700107]) _ r70.1 (Am04u74) (cm04u74) (Am05u74) (cm05u74) (csm0_3u74) (csm0_4u74) (by omega) [59, 32] (by first | omega | (rw [List.length_append]; omega) | (simp only [List.length_append]; omega) | (simp only [List.length_append, List.length_take, List.length_drop, List.length_cons, List.length_nil]; omega)) (hT.wd.lendL _ _ _ (sbA (by rfl)) (keep_sub [1000, 1001, 1500, 2105, 700107]) (by rfl) (sbA (by rfl))) r88 hr88) ?_); intro v91 a' w' hK hp hF
   obtain ⟨Am04u92, cm04u92, csm0_3u92, Am05u92, cm05u92, csm0_4u92, rfl, lm01u92, hWu92⟩ := hp
   have hS2 := St.mk hF (hT.wd.back (sbA (by rfl)) (keep_sub [1000, 1001, 1500, 2105, 700107]) (by rfl) hWu92 (by rfl))
   clear s hT hF hWu92 hK; revert hS2; revert w'; revert a'; intro a w s
   replace s := s.al 150 9300003 rfl
   replace s := s.al 151 9300004 rfl
   replace s := s.ren [(1000, Ob.box b3 [vT (r70.1.s_), vI (r70.1.at_), vI (r70.1.e_), sl Am04u74 (r70.1.sorts_) cm04u74, sl Am05u74 (r70.1.texts_) cm05u74] 82), (1001, Ob.box b4 [vT ([]), vI 0, vI 0, .slice (none) (0) (0), .slice (none) (0) (0)] 82), (1500, Ob.row (some ⟨b49, 0, none⟩) (0) (0) 45 2 ([])), (2105, Ob.row (some ⟨b79, 0, none⟩) (1) (1) 43 3 (cellsOfL [.agg #[vT (r60.2), vI (r50.2), sl Ab1u74 (r70.2) cb1u74]])), (700107, Ob.row (Aq80) ((out_23 ++ [(EP.mk r60.2 r50.2 r70.2)]).length) (cq80) 43 3 (cs26 ++ (cellsOfL [.agg #[vT (r60.2), vI (r50.2), sl Ab1u74 (r70.2) cb1u74]]))), (700109, Ob.row (Am04u92) ((r88.sorts_).length) (cm04u92) 9 1 (csm0_3u92)), (700111, Ob.row (Am05u92) ((r88.texts_).length) (cm05u92) 9 1 (csm0_4u92))] [1000, 1001, 1500, 2105, 700107, 9200003, 9200004] ⟨rfl, rfl, rfl, rfl, rfl, rfl, rfl, trivial⟩ (by decide)
   refine l_seq rfl (l_store (n := 5) (cs' := [vT (r88.s_), vI (r88.at_), vI (r88.e_), sl Am04u92 (r88.sorts_) cm04u92, sl Am05u92 (r88.texts_) cm05u92]) s 1000 rfl rfl rfl rfl rfl rfl rfl rfl ?_); clear s; intro w hK s; clear hK
   apply wO
   refine p_inN ?_
   apply pN
   replace s := s.add 108 (rdF REP (cs26 ++ (cellsOfL [.agg #[vT (r60.2), vI (r50.2), sl Ab1u74 (r70.2) cb1u74]])) (out_23 ++ [(EP.mk r60.2 r50.2 r70.2)])) (s.ft 143 rfl)
   replace s := s.al 110 150 rfl
   replace s := s.al 112 151 rfl
   exact ⟨m1, Nat.lt_succ_self _, ⟨(out_23 ++ [(EP.mk r60.2 r50.2 r70.2)]), (r88.s_), (r88.at_), (r88.e_), (r88.sorts_), (r88.texts_), (Aq80), (cq80), (cs26 ++ (cellsOfL [.agg #[vT (r60.2), vI (r50.2), sl Ab1u74 (r70.2) cb1u74]])), (Am04u92), (cm04u92), (csm0_3u92), (Am05u92), (cm05u92), (csm0_4u92), hg, (by omega), (s.sb rfl rfl rfl)⟩⟩
  replace hg := br_n hg hc47
  apply wp_exit
  refine p_then ?_
  refine p_then ?_
  refine p_in ?_
  apply pN
  replace s := s.al 102 108 rfl
  replace s := s.al 104 110 rfl
  replace s := s.al 106 112 rfl
  replace s := s.pk [(1000, 1000), (1001, 1001), (700101, 700107), (700103, 700109), (700105, 700111)] (by decide)
  exact ⟨(out_23), (r_27), (r_28), (r_29), (r_30), (r_34), (A24), (c25), (cs26), (A31), (c32), (cs33), (A35), (c36), (cs37), hg, (by omega), (s.sb rfl rfl rfl)⟩
 clear s a; rintro a w ⟨out_8, r_12, r_13, r_14, r_15, r_19, A9, c10, cs11, A16, c17, cs18, A20, c21, cs22, hg, lr_12, s⟩
 subst hk7
 apply wQ
 obtain ⟨r93, hr93, hg⟩ := bind_some hg
 apply wL
 refine qq s rfl (y_loadAll (kk := 1000) s rfl rfl underlying82 rfl rfl) fun a s => ?_
 have hT := s.pk [(1000, 1000), (1001, 1001), (700101, 700101), (9200003, 700103), (9200004, 700105)] (by decide)
 replace hT := hT.al 9300003 104 rfl
 replace hT := hT.al 9300004 106 rfl
 refine l_seq rfl (l_callMut (cap := []) hT _ [] (sbA (by rfl)) trivial (by rfl) rfl func68 rfl (by kernel_rfl) rfl rfl (c_r39_word n _ _ (hT.restLt [1000, 1001, 700101]) _ (reader.mk r_12 r_13 r_14 r_15 r_19) (A16) (c17) (A20) (c21) (cs18) (cs22) (by omega) [125] (by first | omega | (rw [List.length_append]; omega) | (simp only [List.length_append]; omega) | (simp only [List.length_append, List.length_take, List.length_drop, List.length_cons, List.length_nil]; omega)) (hT.wd.lendL _ _ _ (sbA (by rfl)) (keep_sub [1000, 1001, 700101]) (by rfl) (sbA (by rfl))) r93 hr93) ?_); intro v96 a' w' hK hp hF
 obtain ⟨Am04u97, cm04u97, csm0_3u97, Am05u97, cm05u97, csm0_4u97, rfl, lm01u97, hWu97⟩ := hp
 have hS2 := St.mk hF (hT.wd.back (sbA (by rfl)) (keep_sub [1000, 1001, 700101]) (by rfl) hWu97 (by rfl))
 clear s hT hF hWu97 hK; revert hS2; revert w'; revert a'; intro a w s
 replace s := s.al 154 9300003 rfl
 replace s := s.al 155 9300004 rfl
 replace s := s.ren [(1000, Ob.box b3 [vT r_12, vI r_13, vI r_14, sl A16 (r_15) c17, sl A20 (r_19) c21] 82), (1001, Ob.box b4 [vT ([]), vI 0, vI 0, .slice (none) (0) (0), .slice (none) (0) (0)] 82), (700101, Ob.row (A9) ((out_8).length) (c10) 43 3 (cs11)), (700103, Ob.row (Am04u97) ((r93.sorts_).length) (cm04u97) 9 1 (csm0_3u97)), (700105, Ob.row (Am05u97) ((r93.texts_).length) (cm05u97) 9 1 (csm0_4u97))] [1000, 1001, 700101, 9200003, 9200004] ⟨rfl, rfl, rfl, rfl, rfl, trivial⟩ (by decide)
 refine mv s rfl rfl fun a s => ?_
 refine l_seq rfl (l_store (n := 5) (cs' := [vT (r93.s_), vI (r93.at_), vI (r93.e_), sl Am04u97 (r93.sorts_) cm04u97, sl Am05u97 (r93.texts_) cm05u97]) s 1001 rfl rfl rfl rfl rfl rfl rfl rfl ?_); clear s; intro w hK s; clear hK
 refine asg s rfl rfl fun a s => ?_
 apply wN
 apply wp_ret
 replace s := s.freeze (R := REP) (kk := 700101) (L' := [(1000, Ob.box b3 [vT r_12, vI r_13, vI r_14, sl A16 (r_15) c17, sl A20 (r_19) c21] 82), (1001, Ob.box b4 [vT (r93.s_), vI (r93.at_), vI (r93.e_), sl Am04u97 (r93.sorts_) cm04u97, sl Am05u97 (r93.texts_) cm05u97] 82), (700103, Ob.row (Am04u97) ((r93.sorts_).length) (cm04u97) 9 1 (csm0_3u97)), (700105, Ob.row (Am05u97) ((r93.texts_).length) (cm05u97) 9 1 (csm0_4u97))]) 156 rfl rfl (s.ft 102 rfl) ⟨rfl, rfl, rfl, rfl, trivial⟩ rfl
 replace s := s.al 9300003 154 rfl
 replace s := s.al 9300004 155 rfl
 replace s := s.al 9500100 156 rfl
 obtain rfl := Option.some.inj hg
 refine fin2 (fn := Tryz.f69) s rfl (r_cell (kk := 1001) (n := 5) (vs := [vT (r93.s_), vI (r93.at_), vI (r93.e_), sl Am04u97 (r93.sorts_) cm04u97, sl Am05u97 (r93.texts_) cm05u97]) s rfl rfl underlying82 rfl rfl rfl rfl) (r_tmp s rfl) ?_
 exact ⟨(Am04u97), (cm04u97), (csm0_3u97), (Am05u97), (cm05u97), (csm0_4u97), (A9), (c10), rfl, (by omega), ((s.ren [(9200003, Ob.row (Am04u97) ((r93.sorts_).length) (cm04u97) 9 1 (csm0_3u97)), (9200004, Ob.row (Am05u97) ((r93.texts_).length) (cm05u97) 9 1 (csm0_4u97))] [700103, 700105] ⟨rfl, rfl, trivial⟩ (by decide)).outL ⟨rfl, rfl, trivial⟩ ⟨rfl, rfl, rfl, trivial⟩)⟩
set_option maxHeartbeats 400000 in
theorem c_r39_constraints (n : Nat) (M : Bs) (w0 : World) (hM : ∀ b, M b → b < w0.heap.size) (C : Bs) (r_ : reader) (Ap04 : Option Addr) (cp04 : Nat) (Ap05 : Option Addr) (cp05 : Nat) (csp03 : List Value) (csp04 : List Value) (lp01 : (r_.s_).length ≤ 9223372036854775807) (hW : Wd ⟨0, M, C, w0⟩ [(9200003, Ob.row (Ap04) ((r_.sorts_).length) (cp04) 9 1 (csp03)), (9200004, Ob.row (Ap05) ((r_.texts_).length) (cp05) 9 1 (csp04))] [(9300003, rdF Rep.str (csp03) (r_.sorts_)), (9300004, rdF Rep.str (csp04) (r_.texts_))] w0) (r : (reader × (List Qeq))) (hg : r39_constraints n r_ = some r) :
    Calls Tryz.prog 70 [.agg #[.string (bs (r_.s_)), .int .i64 (r_.at_), .int .i64 (r_.e_), .slice (Ap04) ((r_.sorts_).length) (cp04), .slice (Ap05) ((r_.texts_).length) (cp05)]].toArray w0 (Ret C w0 fun v w => ∃ (Am04 : Option Addr), ∃ (cm04 : Nat), ∃ (csm0_3 : List Value), ∃ (Am05 : Option Addr), ∃ (cm05 : Nat), ∃ (csm0_4 : List Value), ∃ (Ab1 : Option Addr), ∃ (cb1 : Nat), v = .tuple #[.agg #[.string (bs (r.1.s_)), .int .i64 (r.1.at_), .int .i64 (r.1.e_), .slice (Am04) ((r.1.sorts_).length) (cm04), .slice (Am05) ((r.1.texts_).length) (cm05)], .slice (Ab1) ((r.2).length) (cb1)] ∧ ((r.1.s_).length ≤ 9223372036854775807) ∧ (Wd ⟨0, M, C, w0⟩ [(9200003, Ob.row (Am04) ((r.1.sorts_).length) (cm04) 9 1 (csm0_3)), (9200004, Ob.row (Am05) ((r.1.texts_).length) (cm05) 9 1 (csm0_4))] [(9300003, rdF Rep.str (csm0_3) (r.1.sorts_)), (9300004, rdF Rep.str (csm0_4) (r.1.texts_)), (9500100, slF RQeq (Ab1) ((r.2).length) (cb1) (r.2))] w)) := by
 unfold r39_constraints at hg
 refine enterL M C func70 rfl rfl hW ?_
 intro a s
 apply wR
 refine l_seq rfl (l_box (zs := [vT (r_.s_), vI (r_.at_), vI (r_.e_), sl Ap04 (r_.sorts_) cp04, sl Ap05 (r_.texts_) cp05]) s 1000 rfl rfl rfl rfl fun b3 a w hb hK s => ?_)
 refine l_seq rfl (l_alloc (zs := [vT ([]), vI 0, vI 0, .slice (none) (0) (0), .slice (none) (0) (0)]) s 1001 rfl rfl rfl rfl fun b4 a w hb hK s => ?_)
 refine asg s rfl rfl fun a s => ?_
 apply wN
 apply wR
 refine l_seq rfl (l_buildEmpty (sz := 2) s 1100 underlying24 rfl rfl rfl fun b6 a w hbb6 hK s => ?_)
 clear hbb6
 refine asg s rfl rfl fun a s => ?_
 apply wN
 apply wQ
 obtain ⟨k7, hg, hk7⟩ := jn_some hg
 refine c_post (fun a w => ∃ (out_8 : (List Qeq)) (r_12 : (List UInt8)) (r_13 : Int) (r_14 : Int) (r_15 : (List (List UInt8))) (r_19 : (List (List UInt8))) (A9 : Option Addr) (c10 : Nat) (cs11 : List Value) (A16 : Option Addr) (c17 : Nat) (cs18 : List Value) (A20 : Option Addr) (c21 : Nat) (cs22 : List Value), k7 out_8 r_12 r_13 r_14 r_15 r_19 = some r ∧ ((r_12).length ≤ 9223372036854775807) ∧ St (⟨Tryz.f70.ntmps, M, C, w0⟩ : Ctx) [(1, vP b3 0), (2, vP b4 0), (4, sl A9 (out_8) c10)] [(1000, Ob.box b3 [vT r_12, vI r_13, vI r_14, sl A16 (r_15) c17, sl A20 (r_19) c21] 82), (1001, Ob.box b4 [vT ([]), vI 0, vI 0, .slice (none) (0) (0), .slice (none) (0) (0)] 82), (700101, Ob.row (A9) ((out_8).length) (c10) 48 2 (cs11)), (700103, Ob.row (A16) ((r_15).length) (c17) 9 1 (cs18)), (700105, Ob.row (A20) ((r_19).length) (c21) 9 1 (cs22))] [(102, rdF RQeq (cs11) (out_8)), (104, rdF Rep.str (cs18) (r_15)), (106, rdF Rep.str (cs22) (r_19))] a w) ?_ ?_
 ·apply wp_block
  replace s := s.add 113 (rdF RQeq ([]) ([])) (RdAll.nil _ _ _)
  replace s := s.al 108 113 rfl
  replace s := s.al 110 9300003 rfl
  replace s := s.al 112 9300004 rfl
  replace s := s.pk [(1000, 1000), (1001, 1001), (700107, 1100), (700109, 9200003), (700111, 9200004)] (by decide)
  refine c_loop (σ := Nat) (fun m1 a w => ∃ (out_23 : (List Qeq)) (r_27 : (List UInt8)) (r_28 : Int) (r_29 : Int) (r_30 : (List (List UInt8))) (r_34 : (List (List UInt8))) (A24 : Option Addr) (c25 : Nat) (cs26 : List Value) (A31 : Option Addr) (c32 : Nat) (cs33 : List Value) (A35 : Option Addr) (c36 : Nat) (cs37 : List Value), r39_constraints_L0 n k7 m1 out_23 r_27 r_28 r_29 r_30 r_34 = some r ∧ ((r_27).length ≤ 9223372036854775807) ∧ St (⟨Tryz.f70.ntmps, M, C, w0⟩ : Ctx) [(1, vP b3 0), (2, vP b4 0), (4, sl A24 (out_23) c25)] [(1000, Ob.box b3 [vT r_27, vI r_28, vI r_29, sl A31 (r_30) c32, sl A35 (r_34) c36] 82), (1001, Ob.box b4 [vT ([]), vI 0, vI 0, .slice (none) (0) (0), .slice (none) (0) (0)] 82), (700107, Ob.row (A24) ((out_23).length) (c25) 48 2 (cs26)), (700109, Ob.row (A31) ((r_30).length) (c32) 9 1 (cs33)), (700111, Ob.row (A35) ((r_34).length) (c36) 9 1 (cs37))] [(108, rdF RQeq (cs26) (out_23)), (110, rdF Rep.str (cs33) (r_30)), (112, rdF Rep.str (cs37) (r_34))] a w) (fun m1 => m1) n ⟨([]), (r_.s_), (r_.at_), (r_.e_), (r_.sorts_), (r_.texts_), (some ⟨b6, 0, none⟩), (0), ([]), (Ap04), (cp04), (csp03), (Ap05), (cp05), (csp04), hg, (by omega), (s.sb rfl rfl rfl)⟩ ?_
  clear s a; rintro m1 a w ⟨out_23, r_27, r_28, r_29, r_30, r_34, A24, c25, cs26, A31, c32, cs33, A35, c36, cs37, hg, lr_27, s⟩
  rcases m1 with _ | m1
  ·rw [r39_constraints_L0] at hg; cases hg
  rw [r39_constraints_L0] at hg
  apply wQ
  apply wQ
  obtain ⟨k38, hg, hk38⟩ := jn_some hg
  refine c_post (fun a w => ∃ (t_39 : Bool), k38 t_39 = some r ∧ St (⟨Tryz.f70.ntmps, M, C, w0⟩ : Ctx) [(1, vP b3 0), (2, vP b4 0), (4, sl A24 (out_23) c25), (20, .bool (t_39))] [(1000, Ob.box b3 [vT r_27, vI r_28, vI r_29, sl A31 (r_30) c32, sl A35 (r_34) c36] 82), (1001, Ob.box b4 [vT ([]), vI 0, vI 0, .slice (none) (0) (0), .slice (none) (0) (0)] 82), (700107, Ob.row (A24) ((out_23).length) (c25) 48 2 (cs26)), (700109, Ob.row (A31) ((r_30).length) (c32) 9 1 (cs33)), (700111, Ob.row (A35) ((r_34).length) (c36) 9 1 (cs37))] [(108, rdF RQeq (cs26) (out_23)), (110, rdF Rep.str (cs33) (r_30)), (112, rdF Rep.str (cs37) (r_34))] a w) ?_ ?_
  ·rcases Decidable.em (r_29 = 0) with hs40 | hs40
   ·have hs40e := decide_eq_true hs40
    replace hg := br_t hg hs40
    rcases Decidable.em (((out_23).length) = 0) with hs41 | hs41
    ·have hs41e := decide_eq_true hs41
     replace hg := br_t hg hs41
     obtain ⟨r42, hr42, hg⟩ := bind_some hg
     apply wL
     refine qq s rfl (y_boxField (o' := 2) s rfl underlying82 rfl rfl rfl) fun a s => ?_
     refine qq s rfl (y_loadBox1 (kk := 1000) s rfl rfl rfl underlying36 rfl) fun a s => ?_
     refine qq s rfl (yl_b (y_eql s rfl rfl) hs40e) fun a s => ?_
     refine mv s rfl rfl fun a s => ?_
     refine gm s rfl rfl fun a s => ?_
     refine gy s rfl (y_lenSlice s rfl underlying24) fun a s => ?_
     refine gy s rfl (yl_b (y_eqlN (i := ((out_23).length)) (j := 0) s rfl rfl) hs41e) fun a s => ?_
     refine gm s rfl rfl fun a s => ?_
     refine gy s rfl (y_loadAll (kk := 1000) s rfl rfl underlying82 rfl rfl) fun a s => ?_
     have hT := s
     replace hT := hT.fz (R := Rep.str) (kk := 700109) [1000, 1001, 700107, 700111] 116 rfl rfl (hT.ft 110 rfl) rfl
     replace hT := hT.fz (R := Rep.str) (kk := 700111) [1000, 1001, 700107] 117 rfl rfl (hT.ft 112 rfl) rfl
     refine gl s rfl (l_call (cap := []) s rfl func83 rfl (by kernel_rfl) rfl rfl (c_r39_next n _ _ hT.lt (reader.mk r_27 r_28 r_29 r_30 r_34) (A31) (c32) (A35) (c36) (by omega) (hT.ft 116 rfl) (hT.ft 117 rfl) (125 : UInt8) r42 hr42) fun v45 a w hK hp s => ?_)
     obtain rfl := hp
     refine gy s rfl (y_pick_t s rfl rfl) fun a s => ?_
     refine gy s rfl (y_not s rfl) fun a s => ?_
     refine qq s rfl (y_pick_t s rfl rfl) fun a s => ?_
     apply wN
     exact ⟨(!(r42)), hg, (s.sb rfl rfl rfl)⟩
    have hs41e := decide_eq_false hs41
    replace hg := br_f hg hs41
    apply wL
    refine qq s rfl (y_boxField (o' := 2) s rfl underlying82 rfl rfl rfl) fun a s => ?_
    refine qq s rfl (y_loadBox1 (kk := 1000) s rfl rfl rfl underlying36 rfl) fun a s => ?_
    refine qq s rfl (yl_b (y_eql s rfl rfl) hs40e) fun a s => ?_
    refine mv s rfl rfl fun a s => ?_
    refine gm s rfl rfl fun a s => ?_
    refine gy s rfl (y_lenSlice s rfl underlying24) fun a s => ?_
    refine gy s rfl (yl_b (y_eqlN (i := ((out_23).length)) (j := 0) s rfl rfl) hs41e) fun a s => ?_
    refine gm s rfl rfl fun a s => ?_
    refine gn s rfl fun a s => ?_
    refine gn s rfl fun a s => ?_
    refine gy s rfl (y_pick_f s rfl rfl) fun a s => ?_
    refine gy s rfl (y_not s rfl) fun a s => ?_
    refine qq s rfl (y_pick_t s rfl rfl) fun a s => ?_
    apply wN
    exact ⟨(true), hg, (s.sb rfl rfl rfl)⟩
   have hs40e := decide_eq_false hs40
   replace hg := br_f hg hs40
   apply wL
   refine qq s rfl (y_boxField (o' := 2) s rfl underlying82 rfl rfl rfl) fun a s => ?_
   refine qq s rfl (y_loadBox1 (kk := 1000) s rfl rfl rfl underlying36 rfl) fun a s => ?_
   refine qq s rfl (yl_b (y_eql s rfl rfl) hs40e) fun a s => ?_
   refine mv s rfl rfl fun a s => ?_
   refine gn s rfl fun a s => ?_
   refine gn s rfl fun a s => ?_
   refine gn s rfl fun a s => ?_
   refine gn s rfl fun a s => ?_
   refine gn s rfl fun a s => ?_
   refine gn s rfl fun a s => ?_
   refine gn s rfl fun a s => ?_
   refine gn s rfl fun a s => ?_
   refine qq s rfl (y_pick_f s rfl rfl) fun a s => ?_
   apply wN
   exact ⟨(false), hg, (s.sb rfl rfl rfl)⟩
  clear s a; rintro a w ⟨t_39, hg, s⟩
  subst hk38
  refine c_cond s rfl (fun hc47 => ?_) (fun hc47 => ?_)
  ·replace hg := br_t hg hc47
   apply wp_skip
   apply pN
   apply wp_block
   apply wR
   refine asg s rfl rfl fun a s => ?_
   apply wN
   apply wR
   refine asg s rfl rfl fun a s => ?_
   apply wN
   apply wQ
   obtain ⟨r48, hr48, hg⟩ := bind_some hg
   apply wL
   refine qq s rfl (y_loadAll (kk := 1000) s rfl rfl underlying82 rfl rfl) fun a s => ?_
   have hT := s.pk [(1000, 1000), (1001, 1001), (700107, 700107), (9200003, 700109), (9200004, 700111)] (by decide)
   replace hT := hT.al 9300003 110 rfl
   replace hT := hT.al 9300004 112 rfl
   refine l_seq rfl (l_callMut (cap := []) hT _ [] (sbA (by rfl)) trivial (by rfl) rfl func67 rfl (by kernel_rfl) rfl rfl (c_r39_variableOf n _ _ (hT.restLt [1000, 1001, 700107]) _ (reader.mk r_27 r_28 r_29 r_30 r_34) (A31) (c32) (A35) (c36) (cs33) (cs37) (by omega) (hT.wd.lendL _ _ _ (sbA (by rfl)) (keep_sub [1000, 1001, 700107]) (by rfl) (sbA (by rfl))) r48 hr48) ?_); intro v51 a' w' hK hp hF
   obtain ⟨Am04u52, cm04u52, csm0_3u52, Am05u52, cm05u52, csm0_4u52, rfl, lm01u52, hWu52⟩ := hp
   have hS2 := St.mk hF (hT.wd.back (sbA (by rfl)) (keep_sub [1000, 1001, 700107]) (by rfl) hWu52 (by rfl))
   clear s hT hF hWu52 hK; revert hS2; revert w'; revert a'; intro a w s
   replace s := s.al 120 9300003 rfl
   replace s := s.al 121 9300004 rfl
   replace s := s.ren [(1000, Ob.box b3 [vT r_27, vI r_28, vI r_29, sl A31 (r_30) c32, sl A35 (r_34) c36] 82), (1001, Ob.box b4 [vT ([]), vI 0, vI 0, .slice (none) (0) (0), .slice (none) (0) (0)] 82), (700107, Ob.row (A24) ((out_23).length) (c25) 48 2 (cs26)), (700109, Ob.row (Am04u52) ((r48.1.sorts_).length) (cm04u52) 9 1 (csm0_3u52)), (700111, Ob.row (Am05u52) ((r48.1.texts_).length) (cm05u52) 9 1 (csm0_4u52))] [1000, 1001, 700107, 9200003, 9200004] ⟨rfl, rfl, rfl, rfl, rfl, trivial⟩ (by decide)
   refine mv s rfl rfl fun a s => ?_
   refine qq s rfl (y_extract s rfl rfl) fun a s => ?_
   refine qq s rfl (y_extract s rfl rfl) fun a s => ?_
   refine l_seq rfl (l_store (n := 5) (cs' := [vT (r48.1.s_), vI (r48.1.at_), vI (r48.1.e_), sl Am04u52 (r48.1.sorts_) cm04u52, sl Am05u52 (r48.1.texts_) cm05u52]) s 1000 rfl rfl rfl rfl rfl rfl rfl rfl ?_); clear s; intro w hK s; clear hK
   refine asg s rfl rfl fun a s => ?_
   apply wN
   apply wQ
   obtain ⟨r53, hr53, hg⟩ := bind_some hg
   apply wL
   refine qq s rfl (y_loadAll (kk := 1000) s rfl rfl underlying82 rfl rfl) fun a s => ?_
   have hT := s.pk [(1000, 1000), (1001, 1001), (700107, 700107), (9200003, 700109), (9200004, 700111)] (by decide)
   replace hT := hT.al 9300003 120 rfl
   replace hT := hT.al 9300004 121 rfl
   refine l_seq rfl (l_callMut (cap := []) hT _ [] (sbA (by rfl)) trivial (by rfl) rfl func68 rfl (by kernel_rfl) rfl rfl (c_r39_word n _ _ (hT.restLt [1000, 1001, 700107]) _ r48.1 (Am04u52) (cm04u52) (Am05u52) (cm05u52) (csm0_3u52) (csm0_4u52) (by omega) [32, 113, 101, 113, 32] (by first | omega | (rw [List.length_append]; omega) | (simp only [List.length_append]; omega) | (simp only [List.length_append, List.length_take, List.length_drop, List.length_cons, List.length_nil]; omega)) (hT.wd.lendL _ _ _ (sbA (by rfl)) (keep_sub [1000, 1001, 700107]) (by rfl) (sbA (by rfl))) r53 hr53) ?_); intro v56 a' w' hK hp hF
   obtain ⟨Am04u57, cm04u57, csm0_3u57, Am05u57, cm05u57, csm0_4u57, rfl, lm01u57, hWu57⟩ := hp
   have hS2 := St.mk hF (hT.wd.back (sbA (by rfl)) (keep_sub [1000, 1001, 700107]) (by rfl) hWu57 (by rfl))
   clear s hT hF hWu57 hK; revert hS2; revert w'; revert a'; intro a w s
   replace s := s.al 124 9300003 rfl
   replace s := s.al 125 9300004 rfl
   replace s := s.ren [(1000, Ob.box b3 [vT (r48.1.s_), vI (r48.1.at_), vI (r48.1.e_), sl Am04u52 (r48.1.sorts_) cm04u52, sl Am05u52 (r48.1.texts_) cm05u52] 82), (1001, Ob.box b4 [vT ([]), vI 0, vI 0, .slice (none) (0) (0), .slice (none) (0) (0)] 82), (700107, Ob.row (A24) ((out_23).length) (c25) 48 2 (cs26)), (700109, Ob.row (Am04u57) ((r53.sorts_).length) (cm04u57) 9 1 (csm0_3u57)), (700111, Ob.row (Am05u57) ((r53.texts_).length) (cm05u57) 9 1 (csm0_4u57))] [1000, 1001, 700107, 9200003, 9200004] ⟨rfl, rfl, rfl, rfl, rfl, trivial⟩ (by decide)
   refine l_seq rfl (l_store (n := 5) (cs' := [vT (r53.s_), vI (r53.at_), vI (r53.e_), sl Am04u57 (r53.sorts_) cm04u57, sl Am05u57 (r53.texts_) cm05u57]) s 1000 rfl rfl rfl rfl rfl rfl rfl rfl ?_); clear s; intro w hK s; clear hK
   apply wN
   apply wQ
   obtain ⟨r58, hr58, hg⟩ := bind_some hg
   apply wL
   refine qq s rfl (y_loadAll (kk := 1000) s rfl rfl underlying82 rfl rfl) fun a s => ?_
   have hT := s.pk [(1000, 1000), (1001, 1001), (700107, 700107), (9200003, 700109), (9200004, 700111)] (by decide)
   replace hT := hT.al 9300003 124 rfl
   replace hT := hT.al 9300004 125 rfl
   refine l_seq rfl (l_callMut (cap := []) hT _ [] (sbA (by rfl)) trivial (by rfl) rfl func67 rfl (by kernel_rfl) rfl rfl (c_r39_variableOf n _ _ (hT.restLt [1000, 1001, 700107]) _ r53 (Am04u57) (cm04u57) (Am05u57) (cm05u57) (csm0_3u57) (csm0_4u57) (by omega) (hT.wd.lendL _ _ _ (sbA (by rfl)) (keep_sub [1000, 1001, 700107]) (by rfl) (sbA (by rfl))) r58 hr58) ?_); intro v61 a' w' hK hp hF
   obtain ⟨Am04u62, cm04u62, csm0_3u62, Am05u62, cm05u62, csm0_4u62, rfl, lm01u62, hWu62⟩ := hp
   have hS2 := St.mk hF (hT.wd.back (sbA (by rfl)) (keep_sub [1000, 1001, 700107]) (by rfl) hWu62 (by rfl))
   clear s hT hF hWu62 hK; revert hS2; revert w'; revert a'; intro a w s
   replace s := s.al 128 9300003 rfl
   replace s := s.al 129 9300004 rfl
   replace s := s.ren [(1000, Ob.box b3 [vT (r53.s_), vI (r53.at_), vI (r53.e_), sl Am04u57 (r53.sorts_) cm04u57, sl Am05u57 (r53.texts_) cm05u57] 82), (1001, Ob.box b4 [vT ([]), vI 0, vI 0, .slice (none) (0) (0), .slice (none) (0) (0)] 82), (700107, Ob.row (A24) ((out_23).length) (c25) 48 2 (cs26)), (700109, Ob.row (Am04u62) ((r58.1.sorts_).length) (cm04u62) 9 1 (csm0_3u62)), (700111, Ob.row (Am05u62) ((r58.1.texts_).length) (cm05u62) 9 1 (csm0_4u62))] [1000, 1001, 700107, 9200003, 9200004] ⟨rfl, rfl, rfl, rfl, rfl, trivial⟩ (by decide)
   refine mv s rfl rfl fun a s => ?_
   refine qq s rfl (y_extract s rfl rfl) fun a s => ?_
   refine qq s rfl (y_extract s rfl rfl) fun a s => ?_
   refine l_seq rfl (l_store (n := 5) (cs' := [vT (r58.1.s_), vI (r58.1.at_), vI (r58.1.e_), sl Am04u62 (r58.1.sorts_) cm04u62, sl Am05u62 (r58.1.texts_) cm05u62]) s 1000 rfl rfl rfl rfl rfl rfl rfl rfl ?_); clear s; intro w hK s; clear hK
   refine asg s rfl rfl fun a s => ?_
   apply wN
   apply wQ
   obtain ⟨hk64, hg⟩ := chk_some hg
   apply wL
   refine mv s rfl rfl fun a s => ?_
   refine mv s rfl rfl fun a s => ?_
   refine mv s rfl rfl fun a s => ?_
   refine qq s rfl (y_build (parts := [(0, .tmp 34), (1, .tmp 35)]) (ps := [(0, vI (r48.2)), (1, vI (r58.2))]) (cells := #[vI (r48.2), vI (r58.2)]) s rfl (by kernel_rfl)) fun a s => ?_
   refine l_seq rfl (l_buildDense (sz := 2) s 1804 rfl rfl rfl underlying24 rfl rfl rfl rfl rfl rfl rfl fun b67 a w hbb67 hK s => ?_)
   clear hbb67
   replace s := s.add 132 (rdF RQeq (cellsOfL [.agg #[vI (r48.2), vI (r58.2)]]) ([(Qeq.mk r48.2 r58.2)])) (RdAll.cons (by exact (RQeq.mk' (x := (Qeq.mk r48.2 r58.2)) )) (RdAll.nil _ _ _))
   have hs69 := row_src (s.wd.holds 1804 _ rfl) (RdAll.one (s.ft 132 rfl))
   refine l_seq rfl (l_append (sz := 2) (by_ := 16) (N := (out_23 ++ [(Qeq.mk r48.2 r58.2)]).length) (ys := cs26 ++ (cellsOfL [.agg #[vI (r48.2), vI (r58.2)]])) s 700107 rfl rfl rfl underlying24 rfl rfl rfl rfl rfl hs69 (by simp) rfl (by have hr := hk64; clear hg; first | omega | (simp only [List.length_append, List.length_cons, List.length_nil] at hr ⊢; omega) | (simp at hr ⊢; omega)) (by have hr := hk64; clear hg; first | omega | (simp only [List.length_append, List.length_cons, List.length_nil] at hr ⊢; omega) | (simp at hr ⊢; omega)) rfl fun Aq68 cq68 a w hA hK s => ?_)
   replace s := s.add 133 (rdF RQeq (cs26 ++ (cellsOfL [.agg #[vI (r48.2), vI (r58.2)]])) (out_23 ++ [(Qeq.mk r48.2 r58.2)])) (RdAll.append (s.ft 108 rfl) (s.ft 132 rfl))
   refine asg s rfl rfl fun a s => ?_
   apply wN
   apply wQ
   apply wQ
   obtain ⟨r70, hr70, hg⟩ := bind_some hg
   apply wL
   refine qq s rfl (y_loadAll (kk := 1000) s rfl rfl underlying82 rfl rfl) fun a s => ?_
   have hT := s
   replace hT := hT.fz (R := Rep.str) (kk := 700109) [1000, 1001, 1804, 700107, 700111] 136 rfl rfl (hT.ft 128 rfl) rfl
   replace hT := hT.fz (R := Rep.str) (kk := 700111) [1000, 1001, 1804, 700107] 137 rfl rfl (hT.ft 129 rfl) rfl
   refine l_seq rfl (l_call (cap := []) s rfl func83 rfl (by kernel_rfl) rfl rfl (c_r39_next n _ _ hT.lt r58.1 (Am04u62) (cm04u62) (Am05u62) (cm05u62) (by omega) (hT.ft 136 rfl) (hT.ft 137 rfl) (59 : UInt8) r70 hr70) fun v73 a w hK hp s => ?_)
   obtain rfl := hp
   refine qq s rfl (y_not s rfl) fun a s => ?_
   apply wN
   refine c_cond s rfl (fun hc75 => ?_) (fun hc75 => ?_)
   ·replace hg := br_t hg hc75
    apply wp_exit
    refine p_then ?_
    refine p_out rfl ?_
    refine p_then ?_
    refine p_in ?_
    apply pN
    replace s := s.al 102 133 rfl
    replace s := s.al 104 128 rfl
    replace s := s.al 106 129 rfl
    replace s := s.pk [(1000, 1000), (1001, 1001), (1804, 1804), (700101, 700107), (700103, 700109), (700105, 700111)] (by decide)
    exact ⟨(out_23 ++ [(Qeq.mk r48.2 r58.2)]), (r58.1.s_), (r58.1.at_), (r58.1.e_), (r58.1.sorts_), (r58.1.texts_), (Aq68), (cq68), (cs26 ++ (cellsOfL [.agg #[vI (r48.2), vI (r58.2)]])), (Am04u62), (cm04u62), (csm0_3u62), (Am05u62), (cm05u62), (csm0_4u62), hg, (by omega), (s.sb rfl rfl rfl)⟩
   replace hg := br_n hg hc75
   apply wp_skip
   apply pN
   obtain ⟨r76, hr76, hg⟩ := bind_some hg
   apply wL
   refine qq s rfl (y_loadAll (kk := 1000) s rfl rfl underlying82 rfl rfl) fun a s => ?_
   have hT := s.pk [(1000, 1000), (1001, 1001), (1804, 1804), (700107, 700107), (9200003, 700109), (9200004, 700111)] (by decide)
   replace hT := hT.al 9300003 128 rfl
   replace hT := hT.al 9300004 129 rfl
   refine l_seq rfl (l_callMut (cap := []) hT _ [] (sbA (by rfl)) trivial (by rfl) rfl func68 rfl (by kernel_rfl) rfl rfl (c_r39_word n _ _ (hT.restLt [1000, 1001, 1804, 700107]) _ r58.1 (Am04u62) (cm04u62) (Am05u62) (cm05u62) (csm0_3u62) (csm0_4u62) (by omega) [59, 32] (by first | omega | (rw [List.length_append]; omega) | (simp only [List.length_append]; omega) | (simp only [List.length_append, List.length_take, List.length_drop, List.length_cons, List.length_nil]; omega)) (hT.wd.lendL _ _ _ (sbA (by rfl)) (keep_sub [1000, 1001, 1804, 700107]) (by rfl) (sbA (by rfl))) r76 hr76) ?_); intro v79 a' w' hK hp hF
   obtain ⟨Am04u80, cm04u80, csm0_3u80, Am05u80, cm05u80, csm0_4u80, rfl, lm01u80, hWu80⟩ := hp
   have hS2 := St.mk hF (hT.wd.back (sbA (by rfl)) (keep_sub [1000, 1001, 1804, 700107]) (by rfl) hWu80 (by rfl))
   clear s hT hF hWu80 hK; revert hS2; revert w'; revert a'; intro a w s
   replace s := s.al 140 9300003 rfl
   replace s := s.al 141 9300004 rfl
   replace s := s.ren [(1000, Ob.box b3 [vT (r58.1.s_), vI (r58.1.at_), vI (r58.1.e_), sl Am04u62 (r58.1.sorts_) cm04u62, sl Am05u62 (r58.1.texts_) cm05u62] 82), (1001, Ob.box b4 [vT ([]), vI 0, vI 0, .slice (none) (0) (0), .slice (none) (0) (0)] 82), (1804, Ob.row (some ⟨b67, 0, none⟩) (1) (1) 48 2 (cellsOfL [.agg #[vI (r48.2), vI (r58.2)]])), (700107, Ob.row (Aq68) ((out_23 ++ [(Qeq.mk r48.2 r58.2)]).length) (cq68) 48 2 (cs26 ++ (cellsOfL [.agg #[vI (r48.2), vI (r58.2)]]))), (700109, Ob.row (Am04u80) ((r76.sorts_).length) (cm04u80) 9 1 (csm0_3u80)), (700111, Ob.row (Am05u80) ((r76.texts_).length) (cm05u80) 9 1 (csm0_4u80))] [1000, 1001, 1804, 700107, 9200003, 9200004] ⟨rfl, rfl, rfl, rfl, rfl, rfl, trivial⟩ (by decide)
   refine l_seq rfl (l_store (n := 5) (cs' := [vT (r76.s_), vI (r76.at_), vI (r76.e_), sl Am04u80 (r76.sorts_) cm04u80, sl Am05u80 (r76.texts_) cm05u80]) s 1000 rfl rfl rfl rfl rfl rfl rfl rfl ?_); clear s; intro w hK s; clear hK
   apply wO
   refine p_inN ?_
   apply pN
   replace s := s.al 108 133 rfl
   replace s := s.al 110 140 rfl
   replace s := s.al 112 141 rfl
   exact ⟨m1, Nat.lt_succ_self _, ⟨(out_23 ++ [(Qeq.mk r48.2 r58.2)]), (r76.s_), (r76.at_), (r76.e_), (r76.sorts_), (r76.texts_), (Aq68), (cq68), (cs26 ++ (cellsOfL [.agg #[vI (r48.2), vI (r58.2)]])), (Am04u80), (cm04u80), (csm0_3u80), (Am05u80), (cm05u80), (csm0_4u80), hg, (by omega), (s.sb rfl rfl rfl)⟩⟩
  replace hg := br_n hg hc47
  apply wp_exit
  refine p_then ?_
  refine p_then ?_
  refine p_in ?_
  apply pN
  replace s := s.al 102 108 rfl
  replace s := s.al 104 110 rfl
  replace s := s.al 106 112 rfl
  replace s := s.pk [(1000, 1000), (1001, 1001), (700101, 700107), (700103, 700109), (700105, 700111)] (by decide)
  exact ⟨(out_23), (r_27), (r_28), (r_29), (r_30), (r_34), (A24), (c25), (cs26), (A31), (c32), (cs33), (A35), (c36), (cs37), hg, (by omega), (s.sb rfl rfl rfl)⟩
 clear s a; rintro a w ⟨out_8, r_12, r_13, r_14, r_15, r_19, A9, c10, cs11, A16, c17, cs18, A20, c21, cs22, hg, lr_12, s⟩
 subst hk7
 apply wQ
 obtain ⟨r81, hr81, hg⟩ := bind_some hg
 apply wL
 refine qq s rfl (y_loadAll (kk := 1000) s rfl rfl underlying82 rfl rfl) fun a s => ?_
 have hT := s.pk [(1000, 1000), (1001, 1001), (700101, 700101), (9200003, 700103), (9200004, 700105)] (by decide)
 replace hT := hT.al 9300003 104 rfl
 replace hT := hT.al 9300004 106 rfl
 refine l_seq rfl (l_callMut (cap := []) hT _ [] (sbA (by rfl)) trivial (by rfl) rfl func68 rfl (by kernel_rfl) rfl rfl (c_r39_word n _ _ (hT.restLt [1000, 1001, 700101]) _ (reader.mk r_12 r_13 r_14 r_15 r_19) (A16) (c17) (A20) (c21) (cs18) (cs22) (by omega) [125] (by first | omega | (rw [List.length_append]; omega) | (simp only [List.length_append]; omega) | (simp only [List.length_append, List.length_take, List.length_drop, List.length_cons, List.length_nil]; omega)) (hT.wd.lendL _ _ _ (sbA (by rfl)) (keep_sub [1000, 1001, 700101]) (by rfl) (sbA (by rfl))) r81 hr81) ?_); intro v84 a' w' hK hp hF
 obtain ⟨Am04u85, cm04u85, csm0_3u85, Am05u85, cm05u85, csm0_4u85, rfl, lm01u85, hWu85⟩ := hp
 have hS2 := St.mk hF (hT.wd.back (sbA (by rfl)) (keep_sub [1000, 1001, 700101]) (by rfl) hWu85 (by rfl))
 clear s hT hF hWu85 hK; revert hS2; revert w'; revert a'; intro a w s
 replace s := s.al 144 9300003 rfl
 replace s := s.al 145 9300004 rfl
 replace s := s.ren [(1000, Ob.box b3 [vT r_12, vI r_13, vI r_14, sl A16 (r_15) c17, sl A20 (r_19) c21] 82), (1001, Ob.box b4 [vT ([]), vI 0, vI 0, .slice (none) (0) (0), .slice (none) (0) (0)] 82), (700101, Ob.row (A9) ((out_8).length) (c10) 48 2 (cs11)), (700103, Ob.row (Am04u85) ((r81.sorts_).length) (cm04u85) 9 1 (csm0_3u85)), (700105, Ob.row (Am05u85) ((r81.texts_).length) (cm05u85) 9 1 (csm0_4u85))] [1000, 1001, 700101, 9200003, 9200004] ⟨rfl, rfl, rfl, rfl, rfl, trivial⟩ (by decide)
 refine mv s rfl rfl fun a s => ?_
 refine l_seq rfl (l_store (n := 5) (cs' := [vT (r81.s_), vI (r81.at_), vI (r81.e_), sl Am04u85 (r81.sorts_) cm04u85, sl Am05u85 (r81.texts_) cm05u85]) s 1001 rfl rfl rfl rfl rfl rfl rfl rfl ?_); clear s; intro w hK s; clear hK
 refine asg s rfl rfl fun a s => ?_
 apply wN
 apply wp_ret
 replace s := s.freeze (R := RQeq) (kk := 700101) (L' := [(1000, Ob.box b3 [vT r_12, vI r_13, vI r_14, sl A16 (r_15) c17, sl A20 (r_19) c21] 82), (1001, Ob.box b4 [vT (r81.s_), vI (r81.at_), vI (r81.e_), sl Am04u85 (r81.sorts_) cm04u85, sl Am05u85 (r81.texts_) cm05u85] 82), (700103, Ob.row (Am04u85) ((r81.sorts_).length) (cm04u85) 9 1 (csm0_3u85)), (700105, Ob.row (Am05u85) ((r81.texts_).length) (cm05u85) 9 1 (csm0_4u85))]) 146 rfl rfl (s.ft 102 rfl) ⟨rfl, rfl, rfl, rfl, trivial⟩ rfl
 replace s := s.al 9300003 144 rfl
 replace s := s.al 9300004 145 rfl
 replace s := s.al 9500100 146 rfl
 obtain rfl := Option.some.inj hg
 refine fin2 (fn := Tryz.f70) s rfl (r_cell (kk := 1001) (n := 5) (vs := [vT (r81.s_), vI (r81.at_), vI (r81.e_), sl Am04u85 (r81.sorts_) cm04u85, sl Am05u85 (r81.texts_) cm05u85]) s rfl rfl underlying82 rfl rfl rfl rfl) (r_tmp s rfl) ?_
 exact ⟨(Am04u85), (cm04u85), (csm0_3u85), (Am05u85), (cm05u85), (csm0_4u85), (A9), (c10), rfl, (by omega), ((s.ren [(9200003, Ob.row (Am04u85) ((r81.sorts_).length) (cm04u85) 9 1 (csm0_3u85)), (9200004, Ob.row (Am05u85) ((r81.texts_).length) (cm05u85) 9 1 (csm0_4u85))] [700103, 700105] ⟨rfl, rfl, trivial⟩ (by decide)).outL ⟨rfl, rfl, trivial⟩ ⟨rfl, rfl, rfl, trivial⟩)⟩
set_option maxHeartbeats 400000 in
theorem c_r01_Number (n : Nat) (M : Bs) (w0 : World) (hM : ∀ b, M b → b < w0.heap.size) (t_ : (List UInt8)) (lp01 : (t_).length ≤ 9223372036854775807) (r : (Int × Int)) (hg : r01_Number n t_ = some r) :
    Calls Tryz.prog 86 [.string (bs (t_))].toArray w0 (Ret noB w0 fun v w => v = .tuple #[.int .i64 (r.1), .int .i64 (r.2)]) := by
 unfold r01_Number at hg
 refine enter M noB func86 rfl rfl hM ?_
 intro a s
 apply wR
 refine asg s rfl rfl fun a s => ?_
 refine asg s rfl rfl fun a s => ?_
 apply wN
 apply wR
 refine mv s rfl rfl fun a s => ?_
 refine asg s rfl rfl fun a s => ?_
 apply wN
 apply wQ
 apply wQ
 obtain ⟨k1, hg, hk1⟩ := jn_some hg
 refine c_post (fun a w => ∃ (t_2 : Bool), k1 t_2 = some r ∧ St (⟨Tryz.f86.ntmps, M, noB, w0⟩ : Ctx) [(0, vT t_), (4, vT t_), (17, .bool (t_2))] [] [] a w) ?_ ?_
 ·rcases Decidable.em ((0 : Nat) < ((t_).length)) with hs3 | hs3
  ·have hs3e := decide_eq_true hs3
   replace hg := br_t hg hs3
   obtain ⟨c4, hc4, hg⟩ := bind_some hg
   apply wL
   refine mv s rfl rfl fun a s => ?_
   refine qq s rfl (y_lenStrN s rfl underlying9) fun a s => ?_
   refine qq s rfl (yl_b (y_gtrN (i := ((t_).length)) (j := 0) s rfl rfl) hs3e) fun a s => ?_
   refine mv s rfl rfl fun a s => ?_
   refine gm s rfl rfl fun a s => ?_
   refine gy s rfl (y_indexN (i := 0) s rfl rfl underlying9 rfl hc4) fun a s => ?_
   refine gy s rfl (y_eqlN (i := c4.toNat) (j := 45) s rfl rfl) fun a s => ?_
   refine qq s rfl (y_pick_t s rfl rfl) fun a s => ?_
   apply wN
   exact ⟨(decide (c4.toNat = 45)), hg, (s.sb rfl rfl rfl)⟩
  have hs3e := decide_eq_false hs3
  replace hg := br_f hg hs3
  apply wL
  refine mv s rfl rfl fun a s => ?_
  refine qq s rfl (y_lenStrN s rfl underlying9) fun a s => ?_
  refine qq s rfl (yl_b (y_gtrN (i := ((t_).length)) (j := 0) s rfl rfl) hs3e) fun a s => ?_
  refine mv s rfl rfl fun a s => ?_
  refine gn s rfl fun a s => ?_
  refine gn s rfl fun a s => ?_
  refine gn s rfl fun a s => ?_
  refine qq s rfl (y_pick_f s rfl rfl) fun a s => ?_
  apply wN
  exact ⟨(false), hg, (s.sb rfl rfl rfl)⟩
 clear s a; rintro a w ⟨t_2, hg, s⟩
 subst hk1
 obtain ⟨k5, hg, hk5⟩ := jn_some hg
 refine c_post (fun a w => ∃ (t_6 : (List UInt8)), k5 t_6 = some r ∧ ((t_6).length ≤ 9223372036854775807) ∧ St (⟨Tryz.f86.ntmps, M, noB, w0⟩ : Ctx) [(0, vT t_), (4, vT t_6)] [] [] a w) ?_ ?_
 ·refine c_cond s rfl (fun hc7 => ?_) (fun hc7 => ?_)
  ·replace hg := br_t hg hc7
   obtain ⟨hk8, hg⟩ := chk_some hg
   apply wL
   refine mv s rfl rfl fun a s => ?_
   refine qq s rfl (y_strL (i := 1) s rfl rfl underlying9 rfl hk8) fun a s => ?_
   refine asg s rfl rfl fun a s => ?_
   apply wN
   exact ⟨((t_).drop 1), hg, (by first | omega | (rw [List.length_append]; omega) | (simp only [List.length_append]; omega) | (simp only [List.length_append, List.length_take, List.length_drop, List.length_cons, List.length_nil]; omega)), (s.sb rfl rfl rfl)⟩
  replace hg := br_n hg hc7
  apply wp_skip
  apply pN
  exact ⟨(t_), hg, (by omega), (s.sb rfl rfl rfl)⟩
 clear s a; rintro a w ⟨t_6, hg, lt_6, s⟩
 subst hk5
 apply wQ
 apply wQ
 obtain ⟨k9, hg, hk9⟩ := jn_some hg
 refine c_post (fun a w => ∃ (t_10 : Bool), k9 t_10 = some r ∧ St (⟨Tryz.f86.ntmps, M, noB, w0⟩ : Ctx) [(0, vT t_), (4, vT t_6), (36, .bool (t_10))] [] [] a w) ?_ ?_
 ·rcases Decidable.em ((t_6 : List UInt8) = []) with hs11 | hs11
  ·have hs11e := decide_eq_true hs11
   replace hg := br_t hg hs11
   apply wL
   refine mv s rfl rfl fun a s => ?_
   refine qq s rfl (yl_b (y_seq s rfl rfl) hs11e) fun a s => ?_
   refine mv s rfl rfl fun a s => ?_
   refine gn s rfl fun a s => ?_
   refine gn s rfl fun a s => ?_
   refine gn s rfl fun a s => ?_
   refine gn s rfl fun a s => ?_
   refine gn s rfl fun a s => ?_
   refine gn s rfl fun a s => ?_
   refine gn s rfl fun a s => ?_
   refine gn s rfl fun a s => ?_
   refine gn s rfl fun a s => ?_
   refine gn s rfl fun a s => ?_
   refine gn s rfl fun a s => ?_
   refine gn s rfl fun a s => ?_
   refine gn s rfl fun a s => ?_
   refine qq s rfl (y_pick_t s rfl rfl) fun a s => ?_
   apply wN
   exact ⟨(true), hg, (s.sb rfl rfl rfl)⟩
  have hs11e := decide_eq_false hs11
  replace hg := br_f hg hs11
  obtain ⟨c12, hc12, hg⟩ := bind_some hg
  rcases Decidable.em (c12.toNat = 48) with hs13 | hs13
  ·have hs13e := decide_eq_true hs13
   replace hg := br_t hg hs13
   rcases Decidable.em ((1 : Nat) < ((t_6).length)) with hs14 | hs14
   ·have hs14e := decide_eq_true hs14
    replace hg := br_t hg hs14
    apply wL
    refine mv s rfl rfl fun a s => ?_
    refine qq s rfl (yl_b (y_seq s rfl rfl) hs11e) fun a s => ?_
    refine mv s rfl rfl fun a s => ?_
    refine gm s rfl rfl fun a s => ?_
    refine gy s rfl (y_indexN (i := 0) s rfl rfl underlying9 rfl hc12) fun a s => ?_
    refine gy s rfl (yl_b (y_eqlN (i := c12.toNat) (j := 48) s rfl rfl) hs13e) fun a s => ?_
    refine gm s rfl rfl fun a s => ?_
    refine gm s rfl rfl fun a s => ?_
    refine gy s rfl (y_lenStrN s rfl underlying9) fun a s => ?_
    refine gy s rfl (yl_b (y_gtrN (i := ((t_6).length)) (j := 1) s rfl rfl) hs14e) fun a s => ?_
    refine gm s rfl rfl fun a s => ?_
    refine gn s rfl fun a s => ?_
    refine gn s rfl fun a s => ?_
    refine gn s rfl fun a s => ?_
    refine gy s rfl (y_pick_t s rfl rfl) fun a s => ?_
    refine gy s rfl (y_pick_t s rfl rfl) fun a s => ?_
    refine qq s rfl (y_pick_f s rfl rfl) fun a s => ?_
    apply wN
    exact ⟨(true), hg, (s.sb rfl rfl rfl)⟩
   have hs14e := decide_eq_false hs14
   replace hg := br_f hg hs14
   apply wL
   refine mv s rfl rfl fun a s => ?_
   refine qq s rfl (yl_b (y_seq s rfl rfl) hs11e) fun a s => ?_
   refine mv s rfl rfl fun a s => ?_
   refine gm s rfl rfl fun a s => ?_
   refine gy s rfl (y_indexN (i := 0) s rfl rfl underlying9 rfl hc12) fun a s => ?_
   refine gy s rfl (yl_b (y_eqlN (i := c12.toNat) (j := 48) s rfl rfl) hs13e) fun a s => ?_
   refine gm s rfl rfl fun a s => ?_
   refine gm s rfl rfl fun a s => ?_
   refine gy s rfl (y_lenStrN s rfl underlying9) fun a s => ?_
   refine gy s rfl (yl_b (y_gtrN (i := ((t_6).length)) (j := 1) s rfl rfl) hs14e) fun a s => ?_
   refine gm s rfl rfl fun a s => ?_
   refine gm s rfl rfl fun a s => ?_
   refine gy s rfl (y_lenStrN s rfl underlying9) fun a s => ?_
   refine gy s rfl (y_gtrN (i := ((t_).length)) (j := 1) s rfl rfl) fun a s => ?_
   refine gy s rfl (y_pick_f s rfl rfl) fun a s => ?_
   refine gy s rfl (y_pick_t s rfl rfl) fun a s => ?_
   refine qq s rfl (y_pick_f s rfl rfl) fun a s => ?_
   apply wN
   exact ⟨(decide ((1 : Nat) < ((t_).length))), hg, (s.sb rfl rfl rfl)⟩
  have hs13e := decide_eq_false hs13
  replace hg := br_f hg hs13
  apply wL
  refine mv s rfl rfl fun a s => ?_
  refine qq s rfl (yl_b (y_seq s rfl rfl) hs11e) fun a s => ?_
  refine mv s rfl rfl fun a s => ?_
  refine gm s rfl rfl fun a s => ?_
  refine gy s rfl (y_indexN (i := 0) s rfl rfl underlying9 rfl hc12) fun a s => ?_
  refine gy s rfl (yl_b (y_eqlN (i := c12.toNat) (j := 48) s rfl rfl) hs13e) fun a s => ?_
  refine gm s rfl rfl fun a s => ?_
  refine gn s rfl fun a s => ?_
  refine gn s rfl fun a s => ?_
  refine gn s rfl fun a s => ?_
  refine gn s rfl fun a s => ?_
  refine gn s rfl fun a s => ?_
  refine gn s rfl fun a s => ?_
  refine gn s rfl fun a s => ?_
  refine gn s rfl fun a s => ?_
  refine gy s rfl (y_pick_f s rfl rfl) fun a s => ?_
  refine qq s rfl (y_pick_f s rfl rfl) fun a s => ?_
  apply wN
  exact ⟨(false), hg, (s.sb rfl rfl rfl)⟩
 clear s a; rintro a w ⟨t_10, hg, s⟩
 subst hk9
 refine c_cond s rfl (fun hc15 => ?_) (fun hc15 => ?_)
 ·replace hg := br_t hg hc15
  apply wR
  refine asg s rfl rfl fun a s => ?_
  refine asg s rfl rfl fun a s => ?_
  apply wN
  apply wp_ret
  refine p_thenR ?_
  obtain rfl := Option.some.inj hg
  refine fin2 (fn := Tryz.f86) s rfl (r_tmp s rfl) (r_tmp s rfl) ?_
  exact rfl
 replace hg := br_n hg hc15
 apply wp_skip
 apply pN
 apply wQ
 apply wR
 refine asg s rfl rfl fun a s => ?_
 apply wN
 obtain ⟨k16, hg, hk16⟩ := jn_some hg
 refine c_post (fun a w => k16 = some r ∧ St (⟨Tryz.f86.ntmps, M, noB, w0⟩ : Ctx) [(0, vT t_), (4, vT t_6)] [] [] a w) ?_ ?_
 ·apply wp_block
  refine c_loop (σ := Nat) (fun m1 a w => ∃ (t_17 : Nat), r01_Number_L0 n t_6 k16 m1 t_17 = some r ∧ St (⟨Tryz.f86.ntmps, M, noB, w0⟩ : Ctx) [(0, vT t_), (4, vT t_6), (5, vI (((t_17 : Nat) : Int)))] [] [] a w) (fun m1 => m1) n ⟨(0), hg, (s.sb rfl rfl rfl)⟩ ?_
  clear s a; rintro m1 a w ⟨t_17, hg, s⟩
  rcases m1 with _ | m1
  ·rw [r01_Number_L0] at hg; cases hg
  rw [r01_Number_L0] at hg
  apply wQ
  apply wR
  refine mv s rfl rfl fun a s => ?_
  refine mv s rfl rfl fun a s => ?_
  refine qq s rfl (y_lenStrN s rfl underlying9) fun a s => ?_
  refine qq s rfl (y_lssN (i := t_17) (j := ((t_6).length)) s rfl rfl) fun a s => ?_
  apply wN
  refine c_dec s rfl (fun hc18 => ?_) (fun hc18 => ?_)
  ·replace hg := br_t hg hc18
   have hmx19 : (t_6).length ≤ 9223372036854775807 := (by omega)
   apply wp_skip
   apply pN
   apply wQ
   apply wp_block
   apply wQ
   obtain ⟨c20, hc20, hg⟩ := bind_some hg
   obtain ⟨r21, hr21, hg⟩ := bind_some hg
   apply wL
   refine mv s rfl rfl fun a s => ?_
   refine mv s rfl rfl fun a s => ?_
   refine qq s rfl (y_indexN (i := t_17) s rfl rfl underlying9 rfl hc20) fun a s => ?_
   refine l_seq rfl (l_call (cap := []) s rfl func102 rfl (by kernel_rfl) rfl rfl (c_r01_digit n _ _ s.lt c20 r21 hr21) fun v24 a w hK hp s => ?_)
   obtain rfl := hp
   refine qq s rfl (y_not s rfl) fun a s => ?_
   apply wN
   refine c_cond s rfl (fun hc26 => ?_) (fun hc26 => ?_)
   ·replace hg := br_t hg hc26
    apply wR
    refine asg s rfl rfl fun a s => ?_
    refine asg s rfl rfl fun a s => ?_
    apply wN
    apply wp_ret
    refine p_inR ?_
    refine p_thenR ?_
    refine p_thenR ?_
    refine p_inR ?_
    refine p_thenR ?_
    obtain rfl := Option.some.inj hg
    refine fin2 (fn := Tryz.f86) s rfl (r_tmp s rfl) (r_tmp s rfl) ?_
    exact rfl
   replace hg := br_n hg hc26
   apply wp_skip
   refine p_inN ?_
   apply pN
   apply wL
   refine mv s rfl rfl fun a s => ?_
   refine qq s rfl (y_addN (i := t_17) (j := 1) s rfl rfl (in64.2 (by omega))) fun a s => ?_
   refine asg s rfl rfl fun a s => ?_
   apply wN
   exact ⟨m1, Nat.lt_succ_self _, ⟨(t_17 + 1), hg, (s.sb rfl rfl rfl)⟩⟩
  replace hg := br_f hg hc18
  apply wp_exit
  refine p_then ?_
  refine p_then ?_
  refine p_in ?_
  apply pN
  exact ⟨hg, (s.sb rfl rfl rfl)⟩
 clear s a; rintro a w ⟨hg, s⟩
 subst hk16
 apply wR
 refine asg s rfl rfl fun a s => ?_
 apply wN
 apply wQ
 apply wR
 refine asg s rfl rfl fun a s => ?_
 apply wN
 obtain ⟨k27, hg, hk27⟩ := jn_some hg
 refine c_post (fun a w => ∃ (t_28 : Int), k27 t_28 = some r ∧ St (⟨Tryz.f86.ntmps, M, noB, w0⟩ : Ctx) [(0, vT t_), (4, vT t_6), (6, .int .u64 (t_28))] [] [] a w) ?_ ?_
 ·apply wp_block
  refine c_loop (σ := Nat) (fun m2 a w => ∃ (t_29 : Int) (t_30 : Nat), r01_Number_L1 n t_6 k27 m2 t_29 t_30 = some r ∧ St (⟨Tryz.f86.ntmps, M, noB, w0⟩ : Ctx) [(0, vT t_), (4, vT t_6), (6, .int .u64 (t_29)), (7, vI (((t_30 : Nat) : Int)))] [] [] a w) (fun m2 => m2) n ⟨(0), (0), hg, (s.sb rfl rfl rfl)⟩ ?_
  clear s a; rintro m2 a w ⟨t_29, t_30, hg, s⟩
  rcases m2 with _ | m2
  ·rw [r01_Number_L1] at hg; cases hg
  rw [r01_Number_L1] at hg
  apply wQ
  apply wR
  refine mv s rfl rfl fun a s => ?_
  refine mv s rfl rfl fun a s => ?_
  refine qq s rfl (y_lenStrN s rfl underlying9) fun a s => ?_
  refine qq s rfl (y_lssN (i := t_30) (j := ((t_6).length)) s rfl rfl) fun a s => ?_
  apply wN
  refine c_dec s rfl (fun hc31 => ?_) (fun hc31 => ?_)
  ·replace hg := br_t hg hc31
   have hmx32 : (t_6).length ≤ 9223372036854775807 := (by omega)
   apply wp_skip
   apply pN
   apply wQ
   apply wp_block
   apply wQ
   obtain ⟨c33, hc33, hg⟩ := bind_some hg
   apply wL
   refine mv s rfl rfl fun a s => ?_
   refine mv s rfl rfl fun a s => ?_
   refine qq s rfl (y_indexN (i := t_30) s rfl rfl underlying9 rfl hc33) fun a s => ?_
   refine qq s rfl (y_subU8 (p := c33) (q := (48 : UInt8)) s rfl rfl) fun a s => ?_
   have hu8 := (c33 - (48 : UInt8)).toNat_lt
   refine qq s rfl (y_conv s rfl underlying5 underlying106 (inu64.2 (by omega))) fun a s => ?_
   clear hu8
   refine asg s rfl rfl fun a s => ?_
   apply wN
   apply wQ
   apply wR
   refine mv s rfl rfl fun a s => ?_
   refine mv s rfl rfl fun a s => ?_
   refine qq s rfl (y_wsub s rfl rfl) fun a s => ?_
   refine qq s rfl (y_quo s rfl rfl (by decide)) fun a s => ?_
   refine qq s rfl (y_gtr s rfl rfl) fun a s => ?_
   apply wN
   refine c_dec s rfl (fun hc34 => ?_) (fun hc34 => ?_)
   ·replace hg := br_t hg hc34
    apply wR
    refine asg s rfl rfl fun a s => ?_
    refine asg s rfl rfl fun a s => ?_
    apply wN
    apply wp_ret
    refine p_thenR ?_
    refine p_inR ?_
    refine p_thenR ?_
    refine p_thenR ?_
    refine p_inR ?_
    refine p_thenR ?_
    obtain rfl := Option.some.inj hg
    refine fin2 (fn := Tryz.f86) s rfl (r_tmp s rfl) (r_tmp s rfl) ?_
    exact rfl
   replace hg := br_f hg hc34
   apply wp_skip
   apply pN
   apply wL
   refine mv s rfl rfl fun a s => ?_
   refine qq s rfl (y_wmul s rfl rfl) fun a s => ?_
   refine mv s rfl rfl fun a s => ?_
   refine qq s rfl (y_wadd s rfl rfl) fun a s => ?_
   refine asg s rfl rfl fun a s => ?_
   apply wO
   refine p_inN ?_
   apply pN
   apply wL
   refine mv s rfl rfl fun a s => ?_
   refine qq s rfl (y_addN (i := t_30) (j := 1) s rfl rfl (in64.2 (by omega))) fun a s => ?_
   refine asg s rfl rfl fun a s => ?_
   apply wN
   exact ⟨m2, Nat.lt_succ_self _, ⟨(IntKind.u64.wrap ((IntKind.u64.wrap (t_29 * 10)) + (((c33 - (48 : UInt8)).toNat : Nat) : Int))), (t_30 + 1), hg, (s.sb rfl rfl rfl)⟩⟩
  replace hg := br_f hg hc31
  apply wp_exit
  refine p_then ?_
  refine p_then ?_
  refine p_in ?_
  apply pN
  exact ⟨(t_29), hg, (s.sb rfl rfl rfl)⟩
 clear s a; rintro a w ⟨t_28, hg, s⟩
 subst hk27
 apply wQ
 apply wR
 refine mv s rfl rfl fun a s => ?_
 refine qq s rfl (y_lenStrN s rfl underlying9) fun a s => ?_
 refine mv s rfl rfl fun a s => ?_
 refine qq s rfl (y_lenStrN s rfl underlying9) fun a s => ?_
 refine qq s rfl (y_lssN (i := ((t_6).length)) (j := ((t_).length)) s rfl rfl) fun a s => ?_
 apply wN
 refine c_dec s rfl (fun hc35 => ?_) (fun hc35 => ?_)
 ·replace hg := br_t hg hc35
  have hmx36 : (t_).length ≤ 9223372036854775807 := (by omega)
  apply wR
  refine mv s rfl rfl fun a s => ?_
  refine qq s rfl (y_wneg s rfl) fun a s => ?_
  refine qq s rfl (y_wconv s rfl underlying106 underlying3) fun a s => ?_
  refine asg s rfl rfl fun a s => ?_
  refine asg s rfl rfl fun a s => ?_
  apply wN
  apply wp_ret
  refine p_thenR ?_
  obtain rfl := Option.some.inj hg
  refine fin2 (fn := Tryz.f86) s rfl (r_tmp s rfl) (r_tmp s rfl) ?_
  exact rfl
 replace hg := br_f hg hc35
 apply wp_skip
 apply pN
 apply wQ
 apply wR
 refine mv s rfl rfl fun a s => ?_
 refine qq s rfl (y_eql s rfl rfl) fun a s => ?_
 apply wN
 refine c_dec s rfl (fun hc37 => ?_) (fun hc37 => ?_)
 ·replace hg := br_t hg hc37
  apply wR
  refine asg s rfl rfl fun a s => ?_
  refine asg s rfl rfl fun a s => ?_
  apply wN
  apply wp_ret
  refine p_thenR ?_
  obtain rfl := Option.some.inj hg
  refine fin2 (fn := Tryz.f86) s rfl (r_tmp s rfl) (r_tmp s rfl) ?_
  exact rfl
 replace hg := br_f hg hc37
 apply wp_skip
 apply pN
 apply wQ
 obtain ⟨hk38, hg⟩ := chk_some hg
 apply wL
 refine mv s rfl rfl fun a s => ?_
 refine qq s rfl (y_conv s rfl underlying106 underlying3 (in64.2 (by omega))) fun a s => ?_
 refine asg s rfl rfl fun a s => ?_
 refine asg s rfl rfl fun a s => ?_
 apply wN
 apply wp_ret
 obtain rfl := Option.some.inj hg
 refine fin2 (fn := Tryz.f86) s rfl (r_tmp s rfl) (r_tmp s rfl) ?_
 exact rfl
set_option maxHeartbeats 400000 in
theorem c_r39_numbers (n : Nat) (M : Bs) (w0 : World) (hM : ∀ b, M b → b < w0.heap.size) (t_ : reader) (Ap04 : Option Addr) (cp04 : Nat) (Ap05 : Option Addr) (cp05 : Nat) (lp01 : (t_.s_).length ≤ 9223372036854775807) (hp04 : SlR Rep.str M w0 Ap04 (t_.sorts_).length cp04 (t_.sorts_)) (hp05 : SlR Rep.str M w0 Ap05 (t_.texts_).length cp05 (t_.texts_)) (r : ((List Int) × (List (List UInt8)) × Int)) (hg : r39_numbers n t_ = some r) :
    Calls Tryz.prog 72 [.agg #[.string (bs (t_.s_)), .int .i64 (t_.at_), .int .i64 (t_.e_), .slice (Ap04) ((t_.sorts_).length) (cp04), .slice (Ap05) ((t_.texts_).length) (cp05)]].toArray w0 (Ret noB w0 fun v w => ∃ (Aa1 : Option Addr), ∃ (ca1 : Nat), ∃ (Ab1 : Option Addr), ∃ (cb1 : Nat), v = .tuple #[.slice (Aa1) ((r.1).length) (ca1), .slice (Ab1) ((r.2.1).length) (cb1), .int .i64 (r.2.2)] ∧ (SlR (Rep.num .i64) M w Aa1 (r.1).length ca1 (r.1)) ∧ (SlR Rep.str M w Ab1 (r.2.1).length cb1 (r.2.1))) := by
 unfold r39_numbers at hg
 refine enter M noB func72 rfl rfl hM ?_
 intro a s
 replace s := s.es 101 hp04
 replace s := s.es 102 hp05
 apply wR
 refine l_seq rfl (l_box (zs := [vT (t_.s_), vI (t_.at_), vI (t_.e_), sl Ap04 (t_.sorts_) cp04, sl Ap05 (t_.texts_) cp05]) s 1000 rfl rfl rfl rfl fun b2 a w hb hK s => ?_)
 refine asg s rfl rfl fun a s => ?_
 refine asg s rfl rfl fun a s => ?_
 refine asg s rfl rfl fun a s => ?_
 apply wN
 apply wR
 refine l_seq rfl (l_buildEmpty (sz := 1) s 1100 underlying30 rfl rfl rfl fun b4 a w hbb4 hK s => ?_)
 clear hbb4
 refine asg s rfl rfl fun a s => ?_
 apply wN
 apply wR
 refine asg s rfl rfl fun a s => ?_
 apply wN
 apply wQ
 apply wR
 refine asg s rfl rfl fun a s => ?_
 apply wN
 obtain ⟨k5, hg, hk5⟩ := jn_some hg
 refine c_post (fun a w => ∃ (t_6 : (List Int)) (t_10 : Int) (A7 : Option Addr) (c8 : Nat) (cs9 : List Value), k5 t_6 t_10 = some r ∧ St (⟨Tryz.f72.ntmps, M, noB, w0⟩ : Ctx) [(1, vP b2 0), (5, sl A7 (t_6) c8), (6, vI t_10)] [(1000, Ob.box b2 [vT (t_.s_), vI (t_.at_), vI (t_.e_), sl Ap04 (t_.sorts_) cp04, sl Ap05 (t_.texts_) cp05] 82), (700103, Ob.row (A7) ((t_6).length) (c8) 3 1 (cs9))] [(101, slF Rep.str (Ap04) ((t_.sorts_).length) (cp04) (t_.sorts_)), (102, slF Rep.str (Ap05) ((t_.texts_).length) (cp05) (t_.texts_)), (104, rdF (Rep.num .i64) (cs9) (t_6))] a w) ?_ ?_
 ·apply wp_block
  replace s := s.add 107 (rdF (Rep.num .i64) ([]) ([])) (RdAll.nil _ _ _)
  replace s := s.al 106 107 rfl
  replace s := s.pk [(1000, 1000), (700105, 1100)] (by decide)
  refine c_loop (σ := Nat) (fun m1 a w => ∃ (t_11 : (List Int)) (t_15 : Int) (t_16 : Nat) (A12 : Option Addr) (c13 : Nat) (cs14 : List Value), r39_numbers_L0 n t_ k5 m1 t_11 t_15 t_16 = some r ∧ St (⟨Tryz.f72.ntmps, M, noB, w0⟩ : Ctx) [(1, vP b2 0), (5, sl A12 (t_11) c13), (6, vI t_15), (7, vI (((t_16 : Nat) : Int)))] [(1000, Ob.box b2 [vT (t_.s_), vI (t_.at_), vI (t_.e_), sl Ap04 (t_.sorts_) cp04, sl Ap05 (t_.texts_) cp05] 82), (700105, Ob.row (A12) ((t_11).length) (c13) 3 1 (cs14))] [(101, slF Rep.str (Ap04) ((t_.sorts_).length) (cp04) (t_.sorts_)), (102, slF Rep.str (Ap05) ((t_.texts_).length) (cp05) (t_.texts_)), (106, rdF (Rep.num .i64) (cs14) (t_11))] a w) (fun m1 => m1) n ⟨([]), (-1), (0), (some ⟨b4, 0, none⟩), (0), ([]), hg, (s.sb rfl rfl rfl)⟩ ?_
  clear s a; rintro m1 a w ⟨t_11, t_15, t_16, A12, c13, cs14, hg, s⟩
  rcases m1 with _ | m1
  ·rw [r39_numbers_L0] at hg; cases hg
  rw [r39_numbers_L0] at hg
  apply wQ
  apply wR
  refine mv s rfl rfl fun a s => ?_
  refine qq s rfl (y_boxField (o' := 4) s rfl underlying82 rfl rfl rfl) fun a s => ?_
  refine qq s rfl (y_loadBox1 (kk := 1000) s rfl rfl rfl underlying22 rfl) fun a s => ?_
  refine qq s rfl (y_lenSlice s rfl underlying22) fun a s => ?_
  refine qq s rfl (y_lssN (i := t_16) (j := ((t_.texts_).length)) s rfl rfl) fun a s => ?_
  apply wN
  refine c_dec s rfl (fun hc17 => ?_) (fun hc17 => ?_)
  ·replace hg := br_t hg hc17
   have hmx18 := SlR.mx (s.ft 102 rfl)
   apply wp_skip
   apply pN
   apply wQ
   apply wp_block
   apply wQ
   obtain ⟨x20, hx20, hg⟩ := bind_some hg
   obtain ⟨r22, hr22, hg⟩ := bind_some hg
   apply wL
   refine qq s rfl (y_boxField (o' := 4) s rfl underlying82 rfl rfl rfl) fun a s => ?_
   refine qq s rfl (y_loadBox1 (kk := 1000) s rfl rfl rfl underlying22 rfl) fun a s => ?_
   refine mv s rfl rfl fun a s => ?_
   obtain ⟨p25, hep25, hpp25⟩ := SlR.elemX (s.ft 102 rfl) hx20
   refine qq s rfl (y_elem (sz := 1) (i := t_16) s rfl rfl underlying22 rfl hep25 rfl (lt_of_get hx20)) fun a s => ?_
   obtain ⟨hlq26, hmq26, csq26, hdq26, hcq26⟩ := hpp25
   obtain ⟨rfl, lq261⟩ := hdq26
   refine qq s rfl (y_ldp1 s rfl hlq26 hmq26 (hcq26 0 _ rfl) underlying9 rfl) fun a s => ?_
   refine l_seq rfl (l_call (cap := []) s rfl func86 rfl (by kernel_rfl) rfl rfl (c_r01_Number n _ _ s.lt x20 (by omega) r22 hr22) fun v27 a w hK hp s => ?_)
   obtain rfl := hp
   refine mv s rfl rfl fun a s => ?_
   refine qq s rfl (y_extract s rfl rfl) fun a s => ?_
   refine qq s rfl (y_extract s rfl rfl) fun a s => ?_
   refine asg s rfl rfl fun a s => ?_
   refine asg s rfl rfl fun a s => ?_
   apply wN
   apply wQ
   apply wR
   refine mv s rfl rfl fun a s => ?_
   refine qq s rfl (y_neq s rfl rfl) fun a s => ?_
   apply wN
   refine c_dec s rfl (fun hc29 => ?_) (fun hc29 => ?_)
   ·replace hg := br_t hg hc29
    apply wR
    refine asg s rfl rfl fun a s => ?_
    refine asg s rfl rfl fun a s => ?_
    refine asg s rfl rfl fun a s => ?_
    apply wN
    apply wp_ret
    refine p_thenR ?_
    refine p_inR ?_
    refine p_thenR ?_
    refine p_thenR ?_
    refine p_inR ?_
    refine p_thenR ?_
    obtain rfl := Option.some.inj hg
    refine fin3 (fn := Tryz.f72) s rfl (r_tmp s rfl) (r_tmp s rfl) (r_tmp s rfl) ?_
    exact ⟨(none), (0), (none), (0), rfl, (SlR.nil_ _ _ _), (SlR.nil_ _ _ _)⟩
   replace hg := br_f hg hc29
   apply wp_skip
   apply pN
   apply wQ
   obtain ⟨hk31, hg⟩ := chk_some hg
   apply wL
   refine mv s rfl rfl fun a s => ?_
   refine mv s rfl rfl fun a s => ?_
   refine l_seq rfl (l_buildDense (sz := 1) s 1902 rfl rfl rfl underlying30 rfl rfl rfl rfl rfl rfl rfl fun b34 a w hbb34 hK s => ?_)
   clear hbb34
   replace s := s.add 110 (rdF (Rep.num .i64) (cellsOfL [vI (r22.1)]) ([r22.1])) (RdAll.cons (by exact rfl) (RdAll.nil _ _ _))
   have hs36 := row_src (s.wd.holds 1902 _ rfl) (RdAll.one (s.ft 110 rfl))
   refine l_seq rfl (l_append (sz := 1) (by_ := 8) (N := (t_11 ++ [r22.1]).length) (ys := cs14 ++ (cellsOfL [vI (r22.1)])) s 700105 rfl rfl rfl underlying30 rfl rfl rfl rfl rfl hs36 (by simp) rfl (by have hr := hk31; clear hg; first | omega | (simp only [List.length_append, List.length_cons, List.length_nil] at hr ⊢; omega) | (simp at hr ⊢; omega)) (by have hr := hk31; clear hg; first | omega | (simp only [List.length_append, List.length_cons, List.length_nil] at hr ⊢; omega) | (simp at hr ⊢; omega)) rfl fun Aq35 cq35 a w hA hK s => ?_)
   replace s := s.add 111 (rdF (Rep.num .i64) (cs14 ++ (cellsOfL [vI (r22.1)])) (t_11 ++ [r22.1])) (RdAll.append (s.ft 106 rfl) (s.ft 110 rfl))
   refine asg s rfl rfl fun a s => ?_
   apply wN
   apply wL
   refine mv s rfl rfl fun a s => ?_
   refine mv s rfl rfl fun a s => ?_
   refine qq s rfl (y_max s rfl rfl) fun a s => ?_
   refine asg s rfl rfl fun a s => ?_
   apply wO
   refine p_inN ?_
   apply pN
   apply wL
   refine mv s rfl rfl fun a s => ?_
   refine qq s rfl (y_addN (i := t_16) (j := 1) s rfl rfl (in64.2 (by omega))) fun a s => ?_
   refine asg s rfl rfl fun a s => ?_
   apply wN
   replace s := s.al 106 111 rfl
   exact ⟨m1, Nat.lt_succ_self _, ⟨(t_11 ++ [r22.1]), (if t_15 < r22.1 then r22.1 else t_15), (t_16 + 1), (Aq35), (cq35), (cs14 ++ (cellsOfL [vI (r22.1)])), hg, (s.sb rfl rfl rfl)⟩⟩
  replace hg := br_f hg hc17
  apply wp_exit
  refine p_then ?_
  refine p_then ?_
  refine p_in ?_
  apply pN
  replace s := s.al 104 106 rfl
  replace s := s.pk [(1000, 1000), (700103, 700105)] (by decide)
  exact ⟨(t_11), (t_15), (A12), (c13), (cs14), hg, (s.sb rfl rfl rfl)⟩
 clear s a; rintro a w ⟨t_6, t_10, A7, c8, cs9, hg, s⟩
 subst hk5
 apply wQ
 apply wR
 refine asg s rfl rfl fun a s => ?_
 apply wN
 obtain ⟨k37, hg, hk37⟩ := jn_some hg
 refine c_post (fun a w => k37 = some r ∧ St (⟨Tryz.f72.ntmps, M, noB, w0⟩ : Ctx) [(1, vP b2 0), (5, sl A7 (t_6) c8), (6, vI t_10)] [(1000, Ob.box b2 [vT (t_.s_), vI (t_.at_), vI (t_.e_), sl Ap04 (t_.sorts_) cp04, sl Ap05 (t_.texts_) cp05] 82), (700103, Ob.row (A7) ((t_6).length) (c8) 3 1 (cs9))] [(101, slF Rep.str (Ap04) ((t_.sorts_).length) (cp04) (t_.sorts_)), (102, slF Rep.str (Ap05) ((t_.texts_).length) (cp05) (t_.texts_)), (104, rdF (Rep.num .i64) (cs9) (t_6))] a w) ?_ ?_
 ·apply wp_block
  refine c_loop (σ := Nat) (fun m2 a w => ∃ (t_38 : Nat), r39_numbers_L1 n t_ t_6 k37 m2 t_38 = some r ∧ St (⟨Tryz.f72.ntmps, M, noB, w0⟩ : Ctx) [(1, vP b2 0), (5, sl A7 (t_6) c8), (6, vI t_10), (10, vI (((t_38 : Nat) : Int)))] [(1000, Ob.box b2 [vT (t_.s_), vI (t_.at_), vI (t_.e_), sl Ap04 (t_.sorts_) cp04, sl Ap05 (t_.texts_) cp05] 82), (700103, Ob.row (A7) ((t_6).length) (c8) 3 1 (cs9))] [(101, slF Rep.str (Ap04) ((t_.sorts_).length) (cp04) (t_.sorts_)), (102, slF Rep.str (Ap05) ((t_.texts_).length) (cp05) (t_.texts_)), (104, rdF (Rep.num .i64) (cs9) (t_6))] a w) (fun m2 => m2) n ⟨(0), hg, (s.sb rfl rfl rfl)⟩ ?_
  clear s a; rintro m2 a w ⟨t_38, hg, s⟩
  rcases m2 with _ | m2
  ·rw [r39_numbers_L1] at hg; cases hg
  rw [r39_numbers_L1] at hg
  apply wQ
  apply wR
  refine mv s rfl rfl fun a s => ?_
  refine mv s rfl rfl fun a s => ?_
  refine qq s rfl (y_lenSlice s rfl underlying30) fun a s => ?_
  refine qq s rfl (y_lssN (i := t_38) (j := ((t_6).length)) s rfl rfl) fun a s => ?_
  apply wN
  refine c_dec s rfl (fun hc39 => ?_) (fun hc39 => ?_)
  ·replace hg := br_t hg hc39
   have hmx40 := row_mx (s.wd.holds 700103 _ rfl)
   apply wp_skip
   apply pN
   apply wQ
   obtain ⟨k41, hg, hk41⟩ := jn_some hg
   refine c_post (fun a w => k41 = some r ∧ St (⟨Tryz.f72.ntmps, M, noB, w0⟩ : Ctx) [(1, vP b2 0), (5, sl A7 (t_6) c8), (6, vI t_10), (10, vI (((t_38 : Nat) : Int)))] [(1000, Ob.box b2 [vT (t_.s_), vI (t_.at_), vI (t_.e_), sl Ap04 (t_.sorts_) cp04, sl Ap05 (t_.texts_) cp05] 82), (700103, Ob.row (A7) ((t_6).length) (c8) 3 1 (cs9))] [(101, slF Rep.str (Ap04) ((t_.sorts_).length) (cp04) (t_.sorts_)), (102, slF Rep.str (Ap05) ((t_.texts_).length) (cp05) (t_.texts_)), (104, rdF (Rep.num .i64) (cs9) (t_6))] a w) ?_ ?_
   ·apply wp_block
    apply wR
    refine asg s rfl rfl fun a s => ?_
    apply wN
    apply wp_block
    refine c_loop (σ := Nat) (fun m3 a w => ∃ (t_42 : Nat), r39_numbers_L2 n t_ t_6 t_38 k41 m3 t_42 = some r ∧ St (⟨Tryz.f72.ntmps, M, noB, w0⟩ : Ctx) [(1, vP b2 0), (5, sl A7 (t_6) c8), (6, vI t_10), (10, vI (((t_38 : Nat) : Int))), (11, vI (((t_42 : Nat) : Int)))] [(1000, Ob.box b2 [vT (t_.s_), vI (t_.at_), vI (t_.e_), sl Ap04 (t_.sorts_) cp04, sl Ap05 (t_.texts_) cp05] 82), (700103, Ob.row (A7) ((t_6).length) (c8) 3 1 (cs9))] [(101, slF Rep.str (Ap04) ((t_.sorts_).length) (cp04) (t_.sorts_)), (102, slF Rep.str (Ap05) ((t_.texts_).length) (cp05) (t_.texts_)), (104, rdF (Rep.num .i64) (cs9) (t_6))] a w) (fun m3 => m3) n ⟨(0), hg, (s.sb rfl rfl rfl)⟩ ?_
    clear s a; rintro m3 a w ⟨t_42, hg, s⟩
    rcases m3 with _ | m3
    ·rw [r39_numbers_L2] at hg; cases hg
    rw [r39_numbers_L2] at hg
    apply wQ
    apply wR
    refine mv s rfl rfl fun a s => ?_
    refine mv s rfl rfl fun a s => ?_
    refine qq s rfl (y_lssN (i := t_42) (j := t_38) s rfl rfl) fun a s => ?_
    apply wN
    refine c_dec s rfl (fun hc43 => ?_) (fun hc43 => ?_)
    ·replace hg := br_t hg hc43
     apply wp_skip
     apply pN
     apply wQ
     apply wp_block
     apply wQ
     obtain ⟨k44, hg, hk44⟩ := jn_some hg
     refine c_post (fun a w => ∃ (t_45 : Bool), k44 t_45 = some r ∧ St (⟨Tryz.f72.ntmps, M, noB, w0⟩ : Ctx) [(1, vP b2 0), (5, sl A7 (t_6) c8), (6, vI t_10), (10, vI (((t_38 : Nat) : Int))), (11, vI (((t_42 : Nat) : Int))), (73, .bool (t_45))] [(1000, Ob.box b2 [vT (t_.s_), vI (t_.at_), vI (t_.e_), sl Ap04 (t_.sorts_) cp04, sl Ap05 (t_.texts_) cp05] 82), (700103, Ob.row (A7) ((t_6).length) (c8) 3 1 (cs9))] [(101, slF Rep.str (Ap04) ((t_.sorts_).length) (cp04) (t_.sorts_)), (102, slF Rep.str (Ap05) ((t_.texts_).length) (cp05) (t_.texts_)), (104, rdF (Rep.num .i64) (cs9) (t_6))] a w) ?_ ?_
     ·obtain ⟨x47, hx47, hg⟩ := bind_some hg
      obtain ⟨x50, hx50, hg⟩ := bind_some hg
      rcases Decidable.em (x47 = x50) with hs52 | hs52
      ·have hs52e := decide_eq_true hs52
       replace hg := br_t hg hs52
       obtain ⟨x54, hx54, hg⟩ := bind_some hg
       obtain ⟨x57, hx57, hg⟩ := bind_some hg
       refine d_plan s [] [(0, some 0), (1, some 0), (2, some 0), (3, some 700103), (4, some 0), (5, some 0), (6, some 0), (7, some 700103), (8, some 0), (9, some 0), (10, some 0), (11, some 1000), (12, some 0), (13, some 0), (14, some 0), (15, some 0), (16, some 1000), (17, some 0), (18, some 0), (19, some 0), (20, some 0), (21, some 0)] rfl (by kernel_rfl) (by kernel_rfl) rfl ?_; clear s; intro wr hZ s; have hR := s.wd
       refine qt s hR rfl (y_move s rfl) fun a s => ?_
       refine qt s hR rfl (y_move s rfl) fun a s => ?_
       obtain ⟨hiq59, bq59, hAq59⟩ := SlR.row1 (s.wd.holds 700103 _ rfl) (s.ft 104 rfl) rfl rfl hx47
       refine qt s hR rfl (y_rowIndex (sz := 1) (i := t_42) s rfl rfl underlying30 rfl hAq59 rfl hiq59) fun a s => ?_
       have hz60 := (s.ft 104 rfl).at_ _ _ hx47
       have ez60 := hz60
       refine qt s hR rfl (y_loadRow1 (kk := 700103) s rfl rfl hAq59 (take1 ez60) underlying3 rfl) fun a s => ?_
       refine qt s hR rfl (y_move s rfl) fun a s => ?_
       refine qt s hR rfl (y_move s rfl) fun a s => ?_
       obtain ⟨hiq61, bq61, hAq61⟩ := SlR.row1 (s.wd.holds 700103 _ rfl) (s.ft 104 rfl) rfl rfl hx50
       refine qt s hR rfl (y_rowIndex (sz := 1) (i := t_38) s rfl rfl underlying30 rfl hAq61 rfl hiq61) fun a s => ?_
       have hz62 := (s.ft 104 rfl).at_ _ _ hx50
       have ez62 := hz62
       refine qt s hR rfl (y_loadRow1 (kk := 700103) s rfl rfl hAq61 (take1 ez62) underlying3 rfl) fun a s => ?_
       refine qt s hR rfl (yl_b (y_eql s rfl rfl) hs52e) fun a s => ?_
       refine qt s hR rfl (y_move s rfl) fun a s => ?_
       refine qg s hR rfl (y_boxField (o' := 3) s rfl underlying82 rfl rfl rfl) fun a s => ?_
       refine qg s hR rfl (y_loadBox1 (kk := 1000) s rfl rfl rfl underlying22 rfl) fun a s => ?_
       refine qg s hR rfl (y_move s rfl) fun a s => ?_
       obtain ⟨p63, hep63, hpp63⟩ := SlR.elemX (s.ft 101 rfl) hx54
       refine qg s hR rfl (y_elem (sz := 1) (i := t_42) s rfl rfl underlying22 rfl hep63 rfl (lt_of_get hx54)) fun a s => ?_
       obtain ⟨hlq64, hmq64, csq64, hdq64, hcq64⟩ := hpp63
       obtain ⟨rfl, lq641⟩ := hdq64
       refine qg s hR rfl (y_ldp1 s rfl hlq64 hmq64 (hcq64 0 _ rfl) underlying9 rfl) fun a s => ?_
       refine qg s hR rfl (y_boxField (o' := 3) s rfl underlying82 rfl rfl rfl) fun a s => ?_
       refine qg s hR rfl (y_loadBox1 (kk := 1000) s rfl rfl rfl underlying22 rfl) fun a s => ?_
       refine qg s hR rfl (y_move s rfl) fun a s => ?_
       obtain ⟨p65, hep65, hpp65⟩ := SlR.elemX (s.ft 101 rfl) hx57
       refine qg s hR rfl (y_elem (sz := 1) (i := t_38) s rfl rfl underlying22 rfl hep65 rfl (lt_of_get hx57)) fun a s => ?_
       obtain ⟨hlq66, hmq66, csq66, hdq66, hcq66⟩ := hpp65
       obtain ⟨rfl, lq661⟩ := hdq66
       refine qg s hR rfl (y_ldp1 s rfl hlq66 hmq66 (hcq66 0 _ rfl) underlying9 rfl) fun a s => ?_
       refine qg s hR rfl (y_sne s rfl rfl) fun a s => ?_
       refine qt s hR rfl (y_pick_t s rfl rfl) fun a s => ?_
       clear hR hZ
       apply pN
       exact ⟨(decide ((x54 : List UInt8) ≠ x57)), hg, (s.sb rfl rfl rfl)⟩
      have hs52e := decide_eq_false hs52
      replace hg := br_f hg hs52
      refine d_plan s [] [(0, some 0), (1, some 0), (2, some 0), (3, some 700103), (4, some 0), (5, some 0), (6, some 0), (7, some 700103), (8, some 0), (9, some 0), (10, some 0), (11, some 0), (12, some 0), (13, some 0), (14, some 0), (15, some 0), (16, some 0), (17, some 0), (18, some 0), (19, some 0), (20, some 0), (21, some 0)] rfl (by kernel_rfl) (by kernel_rfl) rfl ?_; clear s; intro wr hZ s; have hR := s.wd
      refine qt s hR rfl (y_move s rfl) fun a s => ?_
      refine qt s hR rfl (y_move s rfl) fun a s => ?_
      obtain ⟨hiq67, bq67, hAq67⟩ := SlR.row1 (s.wd.holds 700103 _ rfl) (s.ft 104 rfl) rfl rfl hx47
      refine qt s hR rfl (y_rowIndex (sz := 1) (i := t_42) s rfl rfl underlying30 rfl hAq67 rfl hiq67) fun a s => ?_
      have hz68 := (s.ft 104 rfl).at_ _ _ hx47
      have ez68 := hz68
      refine qt s hR rfl (y_loadRow1 (kk := 700103) s rfl rfl hAq67 (take1 ez68) underlying3 rfl) fun a s => ?_
      refine qt s hR rfl (y_move s rfl) fun a s => ?_
      refine qt s hR rfl (y_move s rfl) fun a s => ?_
      obtain ⟨hiq69, bq69, hAq69⟩ := SlR.row1 (s.wd.holds 700103 _ rfl) (s.ft 104 rfl) rfl rfl hx50
      refine qt s hR rfl (y_rowIndex (sz := 1) (i := t_38) s rfl rfl underlying30 rfl hAq69 rfl hiq69) fun a s => ?_
      have hz70 := (s.ft 104 rfl).at_ _ _ hx50
      have ez70 := hz70
      refine qt s hR rfl (y_loadRow1 (kk := 700103) s rfl rfl hAq69 (take1 ez70) underlying3 rfl) fun a s => ?_
      refine qt s hR rfl (yl_b (y_eql s rfl rfl) hs52e) fun a s => ?_
      refine qt s hR rfl (y_move s rfl) fun a s => ?_
      refine q_pass s hR rfl rfl ⟨_, _, _, rfl, rfl, rfl, rfl⟩ rfl fun a s => ?_
      refine q_pass s hR rfl rfl ⟨_, _, _, rfl, rfl, rfl, rfl⟩ rfl fun a s => ?_
      refine q_pass s hR rfl rfl ⟨_, _, _, rfl, rfl, rfl, rfl⟩ rfl fun a s => ?_
      refine q_pass s hR rfl rfl ⟨_, _, _, rfl, rfl, rfl, rfl⟩ rfl fun a s => ?_
      refine q_pass s hR rfl rfl ⟨_, _, _, rfl, rfl, rfl, rfl⟩ rfl fun a s => ?_
      refine q_pass s hR rfl rfl ⟨_, _, _, rfl, rfl, rfl, rfl⟩ rfl fun a s => ?_
      refine q_pass s hR rfl rfl ⟨_, _, _, rfl, rfl, rfl, rfl⟩ rfl fun a s => ?_
      refine q_pass s hR rfl rfl ⟨_, _, _, rfl, rfl, rfl, rfl⟩ rfl fun a s => ?_
      refine q_pass s hR rfl rfl ⟨_, _, _, rfl, rfl, rfl, rfl⟩ rfl fun a s => ?_
      refine q_pass s hR rfl rfl ⟨_, _, _, rfl, rfl, rfl, rfl⟩ rfl fun a s => ?_
      refine q_pass s hR rfl rfl ⟨_, _, _, rfl, rfl, rfl, rfl⟩ rfl fun a s => ?_
      refine qt s hR rfl (y_pick_f s rfl rfl) fun a s => ?_
      clear hR hZ
      apply pN
      exact ⟨(false), hg, (s.sb rfl rfl rfl)⟩
     clear s a; rintro a w ⟨t_45, hg, s⟩
     subst hk44
     refine c_cond s rfl (fun hc71 => ?_) (fun hc71 => ?_)
     ·replace hg := br_t hg hc71
      apply wR
      refine asg s rfl rfl fun a s => ?_
      refine asg s rfl rfl fun a s => ?_
      refine asg s rfl rfl fun a s => ?_
      apply wN
      apply wp_ret
      refine p_inR ?_
      refine p_thenR ?_
      refine p_thenR ?_
      refine p_inR ?_
      refine p_inR ?_
      refine p_thenR ?_
      refine p_thenR ?_
      refine p_inR ?_
      refine p_thenR ?_
      obtain rfl := Option.some.inj hg
      refine fin3 (fn := Tryz.f72) s rfl (r_tmp s rfl) (r_tmp s rfl) (r_tmp s rfl) ?_
      exact ⟨(none), (0), (none), (0), rfl, (SlR.nil_ _ _ _), (SlR.nil_ _ _ _)⟩
     replace hg := br_n hg hc71
     apply wp_skip
     refine p_inN ?_
     apply pN
     obtain ⟨hk72, hg⟩ := chk_some hg
     apply wL
     refine mv s rfl rfl fun a s => ?_
     refine qq s rfl (y_addN (i := t_42) (j := 1) s rfl rfl (in64.2 (by omega))) fun a s => ?_
     refine asg s rfl rfl fun a s => ?_
     apply wN
     exact ⟨m3, Nat.lt_succ_self _, ⟨(t_42 + 1), hg, (s.sb rfl rfl rfl)⟩⟩
    replace hg := br_f hg hc43
    apply wp_exit
    refine p_then ?_
    refine p_then ?_
    refine p_in ?_
    refine p_inN ?_
    apply pN
    exact ⟨hg, (s.sb rfl rfl rfl)⟩
   clear s a; rintro a w ⟨hg, s⟩
   subst hk41
   apply wL
   refine mv s rfl rfl fun a s => ?_
   refine qq s rfl (y_addN (i := t_38) (j := 1) s rfl rfl (in64.2 (by omega))) fun a s => ?_
   refine asg s rfl rfl fun a s => ?_
   apply wN
   exact ⟨m2, Nat.lt_succ_self _, ⟨(t_38 + 1), hg, (s.sb rfl rfl rfl)⟩⟩
  replace hg := br_f hg hc39
  apply wp_exit
  refine p_then ?_
  refine p_then ?_
  refine p_in ?_
  apply pN
  exact ⟨hg, (s.sb rfl rfl rfl)⟩
 clear s a; rintro a w ⟨hg, s⟩
 subst hk37
 apply wQ
 apply wR
 refine mv s rfl rfl fun a s => ?_
 refine mv s rfl rfl fun a s => ?_
 refine qq s rfl (y_lenSlice s rfl underlying30) fun a s => ?_
 refine qq s rfl (y_geq s rfl rfl) fun a s => ?_
 apply wN
 refine c_dec s rfl (fun hc73 => ?_) (fun hc73 => ?_)
 ·replace hg := br_t hg hc73
  apply wR
  refine asg s rfl rfl fun a s => ?_
  refine asg s rfl rfl fun a s => ?_
  refine asg s rfl rfl fun a s => ?_
  apply wN
  apply wp_ret
  refine p_thenR ?_
  obtain rfl := Option.some.inj hg
  refine fin3 (fn := Tryz.f72) s rfl (r_tmp s rfl) (r_tmp s rfl) (r_tmp s rfl) ?_
  exact ⟨(none), (0), (none), (0), rfl, (SlR.nil_ _ _ _), (SlR.nil_ _ _ _)⟩
 replace hg := br_f hg hc73
 apply wp_skip
 apply pN
 apply wR
 refine l_seq rfl (l_buildEmpty (sz := 1) s 3100 underlying22 rfl rfl rfl fun b75 a w hbb75 hK s => ?_)
 clear hbb75
 refine asg s rfl rfl fun a s => ?_
 apply wN
 apply wQ
 apply wR
 refine asg s rfl rfl fun a s => ?_
 apply wN
 obtain ⟨k76, hg, hk76⟩ := jn_some hg
 refine c_post (fun a w => ∃ (t_77 : (List (List UInt8))) (A78 : Option Addr) (c79 : Nat) (cs80 : List Value), k76 t_77 = some r ∧ St (⟨Tryz.f72.ntmps, M, noB, w0⟩ : Ctx) [(5, sl A7 (t_6) c8), (12, sl A78 (t_77) c79)] [(700103, Ob.row (A7) ((t_6).length) (c8) 3 1 (cs9)), (700112, Ob.row (A78) ((t_77).length) (c79) 9 1 (cs80))] [(104, rdF (Rep.num .i64) (cs9) (t_6)), (113, rdF Rep.str (cs80) (t_77))] a w) ?_ ?_
 ·apply wp_block
  replace s := s.add 116 (rdF Rep.str ([]) ([])) (RdAll.nil _ _ _)
  replace s := s.al 115 116 rfl
  replace s := s.pk [(1000, 1000), (700103, 700103), (700114, 3100)] (by decide)
  refine c_loop (σ := Nat) (fun m4 a w => ∃ (t_81 : (List (List UInt8))) (t_85 : Nat) (A82 : Option Addr) (c83 : Nat) (cs84 : List Value), r39_numbers_L3 n t_ t_6 t_10 k76 m4 t_81 t_85 = some r ∧ St (⟨Tryz.f72.ntmps, M, noB, w0⟩ : Ctx) [(1, vP b2 0), (5, sl A7 (t_6) c8), (6, vI t_10), (12, sl A82 (t_81) c83), (13, vI (((t_85 : Nat) : Int)))] [(1000, Ob.box b2 [vT (t_.s_), vI (t_.at_), vI (t_.e_), sl Ap04 (t_.sorts_) cp04, sl Ap05 (t_.texts_) cp05] 82), (700103, Ob.row (A7) ((t_6).length) (c8) 3 1 (cs9)), (700114, Ob.row (A82) ((t_81).length) (c83) 9 1 (cs84))] [(101, slF Rep.str (Ap04) ((t_.sorts_).length) (cp04) (t_.sorts_)), (102, slF Rep.str (Ap05) ((t_.texts_).length) (cp05) (t_.texts_)), (104, rdF (Rep.num .i64) (cs9) (t_6)), (115, rdF Rep.str (cs84) (t_81))] a w) (fun m4 => m4) n ⟨([]), (0), (some ⟨b75, 0, none⟩), (0), ([]), hg, (s.sb rfl rfl rfl)⟩ ?_
  clear s a; rintro m4 a w ⟨t_81, t_85, A82, c83, cs84, hg, s⟩
  rcases m4 with _ | m4
  ·rw [r39_numbers_L3] at hg; cases hg
  rw [r39_numbers_L3] at hg
  apply wQ
  apply wR
  refine mv s rfl rfl fun a s => ?_
  refine mv s rfl rfl fun a s => ?_
  refine qq s rfl (y_leq s rfl rfl) fun a s => ?_
  apply wN
  refine c_dec s rfl (fun hc86 => ?_) (fun hc86 => ?_)
  ·replace hg := br_t hg hc86
   apply wp_skip
   apply pN
   apply wQ
   apply wp_block
   apply wQ
   obtain ⟨r87, hr87, hg⟩ := bind_some hg
   apply wL
   refine mv s rfl rfl fun a s => ?_
   refine mv s rfl rfl fun a s => ?_
   have hT := s
   replace hT := hT.fz (R := (Rep.num .i64)) (kk := 700103) [1000, 700114] 118 rfl rfl (hT.ft 104 rfl) rfl
   refine l_seq rfl (l_call (cap := []) s rfl func66 rfl (by kernel_rfl) rfl rfl (c_r39_place n _ _ hT.lt t_6 (A7) (c8) (hT.ft 118 rfl) ((t_85 : Nat) : Int) r87 hr87) fun v90 a w hK hp s => ?_)
   obtain rfl := hp
   refine asg s rfl rfl fun a s => ?_
   apply wN
   apply wQ
   apply wR
   refine mv s rfl rfl fun a s => ?_
   refine qq s rfl (y_lss s rfl rfl) fun a s => ?_
   apply wN
   refine c_dec s rfl (fun hc92 => ?_) (fun hc92 => ?_)
   ·replace hg := br_t hg hc92
    apply wR
    refine asg s rfl rfl fun a s => ?_
    refine asg s rfl rfl fun a s => ?_
    refine asg s rfl rfl fun a s => ?_
    apply wN
    apply wp_ret
    refine p_thenR ?_
    refine p_inR ?_
    refine p_thenR ?_
    refine p_thenR ?_
    refine p_inR ?_
    refine p_thenR ?_
    obtain rfl := Option.some.inj hg
    refine fin3 (fn := Tryz.f72) s rfl (r_tmp s rfl) (r_tmp s rfl) (r_tmp s rfl) ?_
    exact ⟨(none), (0), (none), (0), rfl, (SlR.nil_ _ _ _), (SlR.nil_ _ _ _)⟩
   replace hg := br_f hg hc92
   apply wp_skip
   apply pN
   obtain ⟨x94, hx94, hg⟩ := bind_some hg
   obtain ⟨hk97, hg⟩ := chk_some hg
   apply wL
   refine mv s rfl rfl fun a s => ?_
   refine qq s rfl (y_boxField (o' := 3) s rfl underlying82 rfl rfl rfl) fun a s => ?_
   refine qq s rfl (y_loadBox1 (kk := 1000) s rfl rfl rfl underlying22 rfl) fun a s => ?_
   refine mv s rfl rfl fun a s => ?_
   obtain ⟨p100, hep100, hpp100⟩ := SlR.elemX (s.ft 101 rfl) (ix_some hx94).1
   refine qq s rfl (y_elem (sz := 1) (i := ((r87).toNat)) s rfl rfl underlying22 rfl hep100 (ix_some hx94).2.1 (lt_of_get (ix_some hx94).1)) fun a s => ?_
   obtain ⟨hlq101, hmq101, csq101, hdq101, hcq101⟩ := hpp100
   obtain ⟨rfl, lq1011⟩ := hdq101
   refine qq s rfl (y_ldp1 s rfl hlq101 hmq101 (hcq101 0 _ rfl) underlying9 rfl) fun a s => ?_
   refine l_seq rfl (l_buildDense (sz := 1) s 3806 rfl rfl rfl underlying22 rfl rfl rfl rfl rfl rfl rfl fun b102 a w hbb102 hK s => ?_)
   clear hbb102
   replace s := s.add 121 (rdF Rep.str (cellsOfL [vT x94]) ([x94])) (RdAll.cons (by exact ⟨rfl, (by omega)⟩) (RdAll.nil _ _ _))
   have hs104 := row_src (s.wd.holds 3806 _ rfl) (RdAll.one (s.ft 121 rfl))
   refine l_seq rfl (l_append (sz := 1) (by_ := 16) (N := (t_81 ++ [x94]).length) (ys := cs84 ++ (cellsOfL [vT x94])) s 700114 rfl rfl rfl underlying22 rfl rfl rfl rfl rfl hs104 (by simp) rfl (by have hr := hk97; clear hg; first | omega | (simp only [List.length_append, List.length_cons, List.length_nil] at hr ⊢; omega) | (simp at hr ⊢; omega)) (by have hr := hk97; clear hg; first | omega | (simp only [List.length_append, List.length_cons, List.length_nil] at hr ⊢; omega) | (simp at hr ⊢; omega)) rfl fun Aq103 cq103 a w hA hK s => ?_)
   replace s := s.add 122 (rdF Rep.str (cs84 ++ (cellsOfL [vT x94])) (t_81 ++ [x94])) (RdAll.append (s.ft 115 rfl) (s.ft 121 rfl))
   refine asg s rfl rfl fun a s => ?_
   apply wO
   refine p_inN ?_
   apply pN
   obtain ⟨hk105, hg⟩ := chk_some hg
   apply wL
   refine mv s rfl rfl fun a s => ?_
   refine qq s rfl (y_addN (i := t_85) (j := 1) s rfl rfl (in64.2 (by omega))) fun a s => ?_
   refine asg s rfl rfl fun a s => ?_
   apply wN
   replace s := s.add 115 (rdF Rep.str (cs84 ++ (cellsOfL [vT x94])) (t_81 ++ [x94])) (s.ft 122 rfl)
   exact ⟨m4, Nat.lt_succ_self _, ⟨(t_81 ++ [x94]), (t_85 + 1), (Aq103), (cq103), (cs84 ++ (cellsOfL [vT x94])), hg, (s.sb rfl rfl rfl)⟩⟩
  replace hg := br_f hg hc86
  apply wp_exit
  refine p_then ?_
  refine p_then ?_
  refine p_in ?_
  apply pN
  replace s := s.al 113 115 rfl
  replace s := s.pk [(1000, 1000), (700103, 700103), (700112, 700114)] (by decide)
  exact ⟨(t_81), (A82), (c83), (cs84), hg, (s.sb rfl rfl rfl)⟩
 clear s a; rintro a w ⟨t_77, A78, c79, cs80, hg, s⟩
 subst hk76
 apply wR
 refine mv s rfl rfl fun a s => ?_
 refine mv s rfl rfl fun a s => ?_
 refine asg s rfl rfl fun a s => ?_
 refine asg s rfl rfl fun a s => ?_
 refine asg s rfl rfl fun a s => ?_
 apply wN
 apply wp_ret
 obtain rfl := Option.some.inj hg
 refine fin3 (fn := Tryz.f72) s rfl (r_tmp s rfl) (r_tmp s rfl) (r_tmp s rfl) ?_
 exact ⟨(A7), (c8), (A78), (c79), rfl, (s.rowOut (R := (Rep.num .i64)) (kk := 700103) rfl rfl (s.ft 104 rfl)), (s.rowOut (R := Rep.str) (kk := 700112) rfl rfl (s.ft 113 rfl))⟩
set_option maxHeartbeats 400000 in
theorem c_r39_Parse (n : Nat) (M : Bs) (w0 : World) (hM : ∀ b, M b → b < w0.heap.size) (t_ : (List UInt8)) (lp01 : (t_).length ≤ 9223372036854775807) (r : (MRS × Int)) (hg : r39_Parse n t_ = some r) :
    Calls Tryz.prog 48 [.string (bs (t_))].toArray w0 (Ret noB w0 fun v w => ∃ (Aa3 : Option Addr), ∃ (ca3 : Nat), ∃ (Aa4 : Option Addr), ∃ (ca4 : Nat), ∃ (Aa5 : Option Addr), ∃ (ca5 : Nat), v = .tuple #[.agg #[.int .i64 (r.1.Top), .int .i64 (r.1.Index), .slice (Aa3) ((r.1.Vars).length) (ca3), .slice (Aa4) ((r.1.Rels).length) (ca4), .slice (Aa5) ((r.1.Cons).length) (ca5)], .int .i64 (r.2)] ∧ (SlR Rep.str M w Aa3 (r.1.Vars).length ca3 (r.1.Vars)) ∧ (SlR REP M w Aa4 (r.1.Rels).length ca4 (r.1.Rels)) ∧ (SlR RQeq M w Aa5 (r.1.Cons).length ca5 (r.1.Cons))) := by
 unfold r39_Parse at hg
 refine enter M noB func48 rfl rfl hM ?_
 intro a s
 apply wR
 refine l_seq rfl (l_alloc (zs := [vI 0, vI 0, .slice (none) (0) (0), .slice (none) (0) (0), .slice (none) (0) (0)]) s 1000 rfl rfl rfl rfl fun b2 a w hb hK s => ?_)
 refine asg s rfl rfl fun a s => ?_
 apply wN
 apply wQ
 apply wR
 refine mv s rfl rfl fun a s => ?_
 refine qq s rfl (y_lenStrN s rfl underlying9) fun a s => ?_
 refine qq s rfl (y_gtrN (i := ((t_).length)) (j := 65536) s rfl rfl) fun a s => ?_
 apply wN
 refine c_dec s rfl (fun hc3 => ?_) (fun hc3 => ?_)
 ·replace hg := br_t hg hc3
  have hmx4 : (t_).length ≤ 9223372036854775807 := (by omega)
  apply wR
  refine qq s rfl (y_build (parts := []) (ps := []) (cells := #[vI 0, vI 0, .slice (none) (0) (0), .slice (none) (0) (0), .slice (none) (0) (0)]) s rfl (by kernel_rfl)) fun a s => ?_
  refine l_seq rfl (l_store (n := 5) (cs' := [vI 0, vI 0, .slice (none) (0) (0), .slice (none) (0) (0), .slice (none) (0) (0)]) s 1000 rfl rfl rfl rfl rfl rfl rfl rfl ?_); clear s; intro w hK s; clear hK
  refine asg s rfl rfl fun a s => ?_
  apply wN
  apply wp_ret
  refine p_thenR ?_
  obtain rfl := Option.some.inj hg
  refine fin2 (fn := Tryz.f48) s rfl (r_cell (kk := 1000) (n := 5) (vs := [vI 0, vI 0, .slice (none) (0) (0), .slice (none) (0) (0), .slice (none) (0) (0)]) s rfl rfl underlying26 rfl rfl rfl rfl) (r_tmp s rfl) ?_
  exact ⟨(none), (0), (none), (0), (none), (0), rfl, (SlR.nil_ _ _ _), (SlR.nil_ _ _ _), (SlR.nil_ _ _ _)⟩
 replace hg := br_f hg hc3
 apply wp_skip
 apply pN
 apply wR
 refine asg s rfl rfl fun a s => ?_
 apply wN
 apply wR
 refine asg s rfl rfl fun a s => ?_
 apply wN
 apply wR
 refine l_seq rfl (l_buildEmpty (sz := 3) s 1500 underlying23 rfl rfl rfl fun b6 a w hbb6 hK s => ?_)
 clear hbb6
 refine asg s rfl rfl fun a s => ?_
 apply wN
 apply wR
 refine l_seq rfl (l_buildEmpty (sz := 2) s 1600 underlying24 rfl rfl rfl fun b8 a w hbb8 hK s => ?_)
 clear hbb8
 refine asg s rfl rfl fun a s => ?_
 apply wN
 apply wR
 refine mv s rfl rfl fun a s => ?_
 refine qq s rfl (y_build (parts := [(0, .tmp 25)]) (ps := [(0, vT t_)]) (cells := #[vT t_, vI 0, vI 0, .slice (none) (0) (0), .slice (none) (0) (0)]) s rfl (by kernel_rfl)) fun a s => ?_
 refine l_seq rfl (l_alloc (zs := [vT ([]), vI 0, vI 0, .slice (none) (0) (0), .slice (none) (0) (0)]) s 1702 rfl rfl rfl rfl fun b10 a w hb hK s => ?_)
 refine l_seq rfl (l_store (n := 5) (cs' := [vT t_, vI 0, vI 0, .slice (none) (0) (0), .slice (none) (0) (0)]) s 1702 rfl rfl rfl rfl rfl rfl rfl rfl ?_); clear s; intro w hK s; clear hK
 apply wN
 apply wQ
 obtain ⟨r11, hr11, hg⟩ := bind_some hg
 apply wL
 refine qq s rfl (y_loadAll (kk := 1702) s rfl rfl underlying82 rfl rfl) fun a s => ?_
 replace s := s.nilRow 800107 9 1 rfl
 replace s := s.add 108 (rdF Rep.str ([]) ([])) (RdAll.nil _ _ _)
 replace s := s.nilRow 800109 9 1 rfl
 replace s := s.add 110 (rdF Rep.str ([]) ([])) (RdAll.nil _ _ _)
 have hT := s.pk [(1000, 1000), (1500, 1500), (1600, 1600), (1702, 1702), (9200003, 800107), (9200004, 800109)] (by decide)
 replace hT := hT.al 9300003 108 rfl
 replace hT := hT.al 9300004 110 rfl
 refine l_seq rfl (l_callMut (cap := []) hT _ [] (sbA (by rfl)) trivial (by rfl) rfl func67 rfl (by kernel_rfl) rfl rfl (c_r39_variableOf n _ _ (hT.restLt [1000, 1500, 1600, 1702]) _ (reader.mk t_ 0 0 [] []) (none) (0) (none) (0) ([]) ([]) (by omega) (hT.wd.lendL _ _ _ (sbA (by rfl)) (keep_sub [1000, 1500, 1600, 1702]) (by rfl) (sbA (by rfl))) r11 hr11) ?_); intro v14 a' w' hK hp hF
 obtain ⟨Am04u15, cm04u15, csm0_3u15, Am05u15, cm05u15, csm0_4u15, rfl, lm01u15, hWu15⟩ := hp
 have hS2 := St.mk hF (hT.wd.back (sbA (by rfl)) (keep_sub [1000, 1500, 1600, 1702]) (by rfl) hWu15 (by rfl))
 clear s hT hF hWu15 hK; revert hS2; revert w'; revert a'; intro a w s
 replace s := s.al 111 9300003 rfl
 replace s := s.al 112 9300004 rfl
 replace s := s.ren [(1000, Ob.box b2 [vI 0, vI 0, .slice (none) (0) (0), .slice (none) (0) (0), .slice (none) (0) (0)] 26), (1500, Ob.row (some ⟨b6, 0, none⟩) (0) (0) 43 3 ([])), (1600, Ob.row (some ⟨b8, 0, none⟩) (0) (0) 48 2 ([])), (1702, Ob.box b10 [vT t_, vI 0, vI 0, .slice (none) (0) (0), .slice (none) (0) (0)] 82), (800107, Ob.row (Am04u15) ((r11.1.sorts_).length) (cm04u15) 9 1 (csm0_3u15)), (800109, Ob.row (Am05u15) ((r11.1.texts_).length) (cm05u15) 9 1 (csm0_4u15))] [1000, 1500, 1600, 1702, 9200003, 9200004] ⟨rfl, rfl, rfl, rfl, rfl, rfl, trivial⟩ (by decide)
 refine mv s rfl rfl fun a s => ?_
 refine qq s rfl (y_extract s rfl rfl) fun a s => ?_
 refine qq s rfl (y_extract s rfl rfl) fun a s => ?_
 refine l_seq rfl (l_store (n := 5) (cs' := [vT (r11.1.s_), vI (r11.1.at_), vI (r11.1.e_), sl Am04u15 (r11.1.sorts_) cm04u15, sl Am05u15 (r11.1.texts_) cm05u15]) s 1702 rfl rfl rfl rfl rfl rfl rfl rfl ?_); clear s; intro w hK s; clear hK
 refine asg s rfl rfl fun a s => ?_
 apply wN
 apply wQ
 obtain ⟨r16, hr16, hg⟩ := bind_some hg
 apply wL
 refine qq s rfl (y_loadAll (kk := 1702) s rfl rfl underlying82 rfl rfl) fun a s => ?_
 have hT := s.pk [(1000, 1000), (1500, 1500), (1600, 1600), (1702, 1702), (9200003, 800107), (9200004, 800109)] (by decide)
 replace hT := hT.al 9300003 111 rfl
 replace hT := hT.al 9300004 112 rfl
 refine l_seq rfl (l_callMut (cap := []) hT _ [] (sbA (by rfl)) trivial (by rfl) rfl func68 rfl (by kernel_rfl) rfl rfl (c_r39_word n _ _ (hT.restLt [1000, 1500, 1600, 1702]) _ r11.1 (Am04u15) (cm04u15) (Am05u15) (cm05u15) (csm0_3u15) (csm0_4u15) (by omega) [32] (by first | omega | (rw [List.length_append]; omega) | (simp only [List.length_append]; omega) | (simp only [List.length_append, List.length_take, List.length_drop, List.length_cons, List.length_nil]; omega)) (hT.wd.lendL _ _ _ (sbA (by rfl)) (keep_sub [1000, 1500, 1600, 1702]) (by rfl) (sbA (by rfl))) r16 hr16) ?_); intro v19 a' w' hK hp hF
 obtain ⟨Am04u20, cm04u20, csm0_3u20, Am05u20, cm05u20, csm0_4u20, rfl, lm01u20, hWu20⟩ := hp
 have hS2 := St.mk hF (hT.wd.back (sbA (by rfl)) (keep_sub [1000, 1500, 1600, 1702]) (by rfl) hWu20 (by rfl))
 clear s hT hF hWu20 hK; revert hS2; revert w'; revert a'; intro a w s
 replace s := s.al 115 9300003 rfl
 replace s := s.al 116 9300004 rfl
 replace s := s.ren [(1000, Ob.box b2 [vI 0, vI 0, .slice (none) (0) (0), .slice (none) (0) (0), .slice (none) (0) (0)] 26), (1500, Ob.row (some ⟨b6, 0, none⟩) (0) (0) 43 3 ([])), (1600, Ob.row (some ⟨b8, 0, none⟩) (0) (0) 48 2 ([])), (1702, Ob.box b10 [vT (r11.1.s_), vI (r11.1.at_), vI (r11.1.e_), sl Am04u15 (r11.1.sorts_) cm04u15, sl Am05u15 (r11.1.texts_) cm05u15] 82), (800107, Ob.row (Am04u20) ((r16.sorts_).length) (cm04u20) 9 1 (csm0_3u20)), (800109, Ob.row (Am05u20) ((r16.texts_).length) (cm05u20) 9 1 (csm0_4u20))] [1000, 1500, 1600, 1702, 9200003, 9200004] ⟨rfl, rfl, rfl, rfl, rfl, rfl, trivial⟩ (by decide)
 refine l_seq rfl (l_store (n := 5) (cs' := [vT (r16.s_), vI (r16.at_), vI (r16.e_), sl Am04u20 (r16.sorts_) cm04u20, sl Am05u20 (r16.texts_) cm05u20]) s 1702 rfl rfl rfl rfl rfl rfl rfl rfl ?_); clear s; intro w hK s; clear hK
 apply wN
 apply wQ
 obtain ⟨r21, hr21, hg⟩ := bind_some hg
 apply wL
 refine qq s rfl (y_loadAll (kk := 1702) s rfl rfl underlying82 rfl rfl) fun a s => ?_
 have hT := s.pk [(1000, 1000), (1500, 1500), (1600, 1600), (1702, 1702), (9200003, 800107), (9200004, 800109)] (by decide)
 replace hT := hT.al 9300003 115 rfl
 replace hT := hT.al 9300004 116 rfl
 refine l_seq rfl (l_callMut (cap := []) hT _ [] (sbA (by rfl)) trivial (by rfl) rfl func67 rfl (by kernel_rfl) rfl rfl (c_r39_variableOf n _ _ (hT.restLt [1000, 1500, 1600, 1702]) _ r16 (Am04u20) (cm04u20) (Am05u20) (cm05u20) (csm0_3u20) (csm0_4u20) (by omega) (hT.wd.lendL _ _ _ (sbA (by rfl)) (keep_sub [1000, 1500, 1600, 1702]) (by rfl) (sbA (by rfl))) r21 hr21) ?_); intro v24 a' w' hK hp hF
 obtain ⟨Am04u25, cm04u25, csm0_3u25, Am05u25, cm05u25, csm0_4u25, rfl, lm01u25, hWu25⟩ := hp
 have hS2 := St.mk hF (hT.wd.back (sbA (by rfl)) (keep_sub [1000, 1500, 1600, 1702]) (by rfl) hWu25 (by rfl))
 clear s hT hF hWu25 hK; revert hS2; revert w'; revert a'; intro a w s
 replace s := s.al 119 9300003 rfl
 replace s := s.al 120 9300004 rfl
 replace s := s.ren [(1000, Ob.box b2 [vI 0, vI 0, .slice (none) (0) (0), .slice (none) (0) (0), .slice (none) (0) (0)] 26), (1500, Ob.row (some ⟨b6, 0, none⟩) (0) (0) 43 3 ([])), (1600, Ob.row (some ⟨b8, 0, none⟩) (0) (0) 48 2 ([])), (1702, Ob.box b10 [vT (r16.s_), vI (r16.at_), vI (r16.e_), sl Am04u20 (r16.sorts_) cm04u20, sl Am05u20 (r16.texts_) cm05u20] 82), (800107, Ob.row (Am04u25) ((r21.1.sorts_).length) (cm04u25) 9 1 (csm0_3u25)), (800109, Ob.row (Am05u25) ((r21.1.texts_).length) (cm05u25) 9 1 (csm0_4u25))] [1000, 1500, 1600, 1702, 9200003, 9200004] ⟨rfl, rfl, rfl, rfl, rfl, rfl, trivial⟩ (by decide)
 refine mv s rfl rfl fun a s => ?_
 refine qq s rfl (y_extract s rfl rfl) fun a s => ?_
 refine qq s rfl (y_extract s rfl rfl) fun a s => ?_
 refine l_seq rfl (l_store (n := 5) (cs' := [vT (r21.1.s_), vI (r21.1.at_), vI (r21.1.e_), sl Am04u25 (r21.1.sorts_) cm04u25, sl Am05u25 (r21.1.texts_) cm05u25]) s 1702 rfl rfl rfl rfl rfl rfl rfl rfl ?_); clear s; intro w hK s; clear hK
 refine asg s rfl rfl fun a s => ?_
 apply wN
 apply wQ
 obtain ⟨r26, hr26, hg⟩ := bind_some hg
 apply wL
 refine qq s rfl (y_loadAll (kk := 1702) s rfl rfl underlying82 rfl rfl) fun a s => ?_
 have hT := s.pk [(1000, 1000), (1500, 1500), (1600, 1600), (1702, 1702), (9200003, 800107), (9200004, 800109)] (by decide)
 replace hT := hT.al 9300003 119 rfl
 replace hT := hT.al 9300004 120 rfl
 refine l_seq rfl (l_callMut (cap := []) hT _ [] (sbA (by rfl)) trivial (by rfl) rfl func68 rfl (by kernel_rfl) rfl rfl (c_r39_word n _ _ (hT.restLt [1000, 1500, 1600, 1702]) _ r21.1 (Am04u25) (cm04u25) (Am05u25) (cm05u25) (csm0_3u25) (csm0_4u25) (by omega) [32, 123] (by first | omega | (rw [List.length_append]; omega) | (simp only [List.length_append]; omega) | (simp only [List.length_append, List.length_take, List.length_drop, List.length_cons, List.length_nil]; omega)) (hT.wd.lendL _ _ _ (sbA (by rfl)) (keep_sub [1000, 1500, 1600, 1702]) (by rfl) (sbA (by rfl))) r26 hr26) ?_); intro v29 a' w' hK hp hF
 obtain ⟨Am04u30, cm04u30, csm0_3u30, Am05u30, cm05u30, csm0_4u30, rfl, lm01u30, hWu30⟩ := hp
 have hS2 := St.mk hF (hT.wd.back (sbA (by rfl)) (keep_sub [1000, 1500, 1600, 1702]) (by rfl) hWu30 (by rfl))
 clear s hT hF hWu30 hK; revert hS2; revert w'; revert a'; intro a w s
 replace s := s.al 123 9300003 rfl
 replace s := s.al 124 9300004 rfl
 replace s := s.ren [(1000, Ob.box b2 [vI 0, vI 0, .slice (none) (0) (0), .slice (none) (0) (0), .slice (none) (0) (0)] 26), (1500, Ob.row (some ⟨b6, 0, none⟩) (0) (0) 43 3 ([])), (1600, Ob.row (some ⟨b8, 0, none⟩) (0) (0) 48 2 ([])), (1702, Ob.box b10 [vT (r21.1.s_), vI (r21.1.at_), vI (r21.1.e_), sl Am04u25 (r21.1.sorts_) cm04u25, sl Am05u25 (r21.1.texts_) cm05u25] 82), (800107, Ob.row (Am04u30) ((r26.sorts_).length) (cm04u30) 9 1 (csm0_3u30)), (800109, Ob.row (Am05u30) ((r26.texts_).length) (cm05u30) 9 1 (csm0_4u30))] [1000, 1500, 1600, 1702, 9200003, 9200004] ⟨rfl, rfl, rfl, rfl, rfl, rfl, trivial⟩ (by decide)
 refine l_seq rfl (l_store (n := 5) (cs' := [vT (r26.s_), vI (r26.at_), vI (r26.e_), sl Am04u30 (r26.sorts_) cm04u30, sl Am05u30 (r26.texts_) cm05u30]) s 1702 rfl rfl rfl rfl rfl rfl rfl rfl ?_); clear s; intro w hK s; clear hK
 apply wN
 apply wQ
 obtain ⟨r31, hr31, hg⟩ := bind_some hg
 apply wL
 refine qq s rfl (y_loadAll (kk := 1702) s rfl rfl underlying82 rfl rfl) fun a s => ?_
 have hT := s.pk [(1000, 1000), (1500, 1500), (1600, 1600), (1702, 1702), (9200003, 800107), (9200004, 800109)] (by decide)
 replace hT := hT.al 9300003 123 rfl
 replace hT := hT.al 9300004 124 rfl
 refine l_seq rfl (l_callMut (cap := []) hT _ [] (sbA (by rfl)) trivial (by rfl) rfl func69 rfl (by kernel_rfl) rfl rfl (c_r39_predications n _ _ (hT.restLt [1000, 1500, 1600, 1702]) _ r26 (Am04u30) (cm04u30) (Am05u30) (cm05u30) (csm0_3u30) (csm0_4u30) (by omega) (hT.wd.lendL _ _ _ (sbA (by rfl)) (keep_sub [1000, 1500, 1600, 1702]) (by rfl) (sbA (by rfl))) r31 hr31) ?_); intro v34 a' w' hK hp hF
 obtain ⟨Am04u35, cm04u35, csm0_3u35, Am05u35, cm05u35, csm0_4u35, Ab1u35, cb1u35, rfl, lm01u35, hWu35⟩ := hp
 have hS2 := St.mk hF (hT.wd.back (sbA (by rfl)) (keep_sub [1000, 1500, 1600, 1702]) (by rfl) hWu35 (by rfl))
 clear s hT hF hWu35 hK; revert hS2; revert w'; revert a'; intro a w s
 replace s := s.al 128 9300003 rfl
 replace s := s.al 129 9300004 rfl
 replace s := s.al 130 9500100 rfl
 replace s := s.ren [(1000, Ob.box b2 [vI 0, vI 0, .slice (none) (0) (0), .slice (none) (0) (0), .slice (none) (0) (0)] 26), (1500, Ob.row (some ⟨b6, 0, none⟩) (0) (0) 43 3 ([])), (1600, Ob.row (some ⟨b8, 0, none⟩) (0) (0) 48 2 ([])), (1702, Ob.box b10 [vT (r26.s_), vI (r26.at_), vI (r26.e_), sl Am04u30 (r26.sorts_) cm04u30, sl Am05u30 (r26.texts_) cm05u30] 82), (800107, Ob.row (Am04u35) ((r31.1.sorts_).length) (cm04u35) 9 1 (csm0_3u35)), (800109, Ob.row (Am05u35) ((r31.1.texts_).length) (cm05u35) 9 1 (csm0_4u35))] [1000, 1500, 1600, 1702, 9200003, 9200004] ⟨rfl, rfl, rfl, rfl, rfl, rfl, trivial⟩ (by decide)
 refine mv s rfl rfl fun a s => ?_
 refine qq s rfl (y_extract s rfl rfl) fun a s => ?_
 refine qq s rfl (y_extract s rfl rfl) fun a s => ?_
 refine l_seq rfl (l_store (n := 5) (cs' := [vT (r31.1.s_), vI (r31.1.at_), vI (r31.1.e_), sl Am04u35 (r31.1.sorts_) cm04u35, sl Am05u35 (r31.1.texts_) cm05u35]) s 1702 rfl rfl rfl rfl rfl rfl rfl rfl ?_); clear s; intro w hK s; clear hK
 refine asg s rfl rfl fun a s => ?_
 apply wN
 apply wQ
 obtain ⟨r36, hr36, hg⟩ := bind_some hg
 apply wL
 refine qq s rfl (y_loadAll (kk := 1702) s rfl rfl underlying82 rfl rfl) fun a s => ?_
 have hT := s.pk [(1000, 1000), (1500, 1500), (1600, 1600), (1702, 1702), (9200003, 800107), (9200004, 800109)] (by decide)
 replace hT := hT.al 9300003 128 rfl
 replace hT := hT.al 9300004 129 rfl
 refine l_seq rfl (l_callMut (cap := []) hT _ [] (sbA (by rfl)) trivial (by rfl) rfl func68 rfl (by kernel_rfl) rfl rfl (c_r39_word n _ _ (hT.restLt [1000, 1500, 1600, 1702]) _ r31.1 (Am04u35) (cm04u35) (Am05u35) (cm05u35) (csm0_3u35) (csm0_4u35) (by omega) [32, 123] (by first | omega | (rw [List.length_append]; omega) | (simp only [List.length_append]; omega) | (simp only [List.length_append, List.length_take, List.length_drop, List.length_cons, List.length_nil]; omega)) (hT.wd.lendL _ _ _ (sbA (by rfl)) (keep_sub [1000, 1500, 1600, 1702]) (by rfl) (sbA (by rfl))) r36 hr36) ?_); intro v39 a' w' hK hp hF
 obtain ⟨Am04u40, cm04u40, csm0_3u40, Am05u40, cm05u40, csm0_4u40, rfl, lm01u40, hWu40⟩ := hp
 have hS2 := St.mk hF (hT.wd.back (sbA (by rfl)) (keep_sub [1000, 1500, 1600, 1702]) (by rfl) hWu40 (by rfl))
 clear s hT hF hWu40 hK; revert hS2; revert w'; revert a'; intro a w s
 replace s := s.al 133 9300003 rfl
 replace s := s.al 134 9300004 rfl
 replace s := s.ren [(1000, Ob.box b2 [vI 0, vI 0, .slice (none) (0) (0), .slice (none) (0) (0), .slice (none) (0) (0)] 26), (1500, Ob.row (some ⟨b6, 0, none⟩) (0) (0) 43 3 ([])), (1600, Ob.row (some ⟨b8, 0, none⟩) (0) (0) 48 2 ([])), (1702, Ob.box b10 [vT (r31.1.s_), vI (r31.1.at_), vI (r31.1.e_), sl Am04u35 (r31.1.sorts_) cm04u35, sl Am05u35 (r31.1.texts_) cm05u35] 82), (800107, Ob.row (Am04u40) ((r36.sorts_).length) (cm04u40) 9 1 (csm0_3u40)), (800109, Ob.row (Am05u40) ((r36.texts_).length) (cm05u40) 9 1 (csm0_4u40))] [1000, 1500, 1600, 1702, 9200003, 9200004] ⟨rfl, rfl, rfl, rfl, rfl, rfl, trivial⟩ (by decide)
 refine l_seq rfl (l_store (n := 5) (cs' := [vT (r36.s_), vI (r36.at_), vI (r36.e_), sl Am04u40 (r36.sorts_) cm04u40, sl Am05u40 (r36.texts_) cm05u40]) s 1702 rfl rfl rfl rfl rfl rfl rfl rfl ?_); clear s; intro w hK s; clear hK
 apply wN
 apply wQ
 obtain ⟨r41, hr41, hg⟩ := bind_some hg
 apply wL
 refine qq s rfl (y_loadAll (kk := 1702) s rfl rfl underlying82 rfl rfl) fun a s => ?_
 have hT := s.pk [(1000, 1000), (1500, 1500), (1600, 1600), (1702, 1702), (9200003, 800107), (9200004, 800109)] (by decide)
 replace hT := hT.al 9300003 133 rfl
 replace hT := hT.al 9300004 134 rfl
 refine l_seq rfl (l_callMut (cap := []) hT _ [] (sbA (by rfl)) trivial (by rfl) rfl func70 rfl (by kernel_rfl) rfl rfl (c_r39_constraints n _ _ (hT.restLt [1000, 1500, 1600, 1702]) _ r36 (Am04u40) (cm04u40) (Am05u40) (cm05u40) (csm0_3u40) (csm0_4u40) (by omega) (hT.wd.lendL _ _ _ (sbA (by rfl)) (keep_sub [1000, 1500, 1600, 1702]) (by rfl) (sbA (by rfl))) r41 hr41) ?_); intro v44 a' w' hK hp hF
 obtain ⟨Am04u45, cm04u45, csm0_3u45, Am05u45, cm05u45, csm0_4u45, Ab1u45, cb1u45, rfl, lm01u45, hWu45⟩ := hp
 have hS2 := St.mk hF (hT.wd.back (sbA (by rfl)) (keep_sub [1000, 1500, 1600, 1702]) (by rfl) hWu45 (by rfl))
 clear s hT hF hWu45 hK; revert hS2; revert w'; revert a'; intro a w s
 replace s := s.al 138 9300003 rfl
 replace s := s.al 139 9300004 rfl
 replace s := s.al 140 9500100 rfl
 replace s := s.ren [(1000, Ob.box b2 [vI 0, vI 0, .slice (none) (0) (0), .slice (none) (0) (0), .slice (none) (0) (0)] 26), (1500, Ob.row (some ⟨b6, 0, none⟩) (0) (0) 43 3 ([])), (1600, Ob.row (some ⟨b8, 0, none⟩) (0) (0) 48 2 ([])), (1702, Ob.box b10 [vT (r36.s_), vI (r36.at_), vI (r36.e_), sl Am04u40 (r36.sorts_) cm04u40, sl Am05u40 (r36.texts_) cm05u40] 82), (800107, Ob.row (Am04u45) ((r41.1.sorts_).length) (cm04u45) 9 1 (csm0_3u45)), (800109, Ob.row (Am05u45) ((r41.1.texts_).length) (cm05u45) 9 1 (csm0_4u45))] [1000, 1500, 1600, 1702, 9200003, 9200004] ⟨rfl, rfl, rfl, rfl, rfl, rfl, trivial⟩ (by decide)
 refine mv s rfl rfl fun a s => ?_
 refine qq s rfl (y_extract s rfl rfl) fun a s => ?_
 refine qq s rfl (y_extract s rfl rfl) fun a s => ?_
 refine l_seq rfl (l_store (n := 5) (cs' := [vT (r41.1.s_), vI (r41.1.at_), vI (r41.1.e_), sl Am04u45 (r41.1.sorts_) cm04u45, sl Am05u45 (r41.1.texts_) cm05u45]) s 1702 rfl rfl rfl rfl rfl rfl rfl rfl ?_); clear s; intro w hK s; clear hK
 refine asg s rfl rfl fun a s => ?_
 apply wN
 apply wR
 refine mv s rfl rfl fun a s => ?_
 refine mv s rfl rfl fun a s => ?_
 refine mv s rfl rfl fun a s => ?_
 refine mv s rfl rfl fun a s => ?_
 refine qq s rfl (y_build (parts := [(0, .tmp 53), (1, .tmp 54), (3, .tmp 55), (4, .tmp 56)]) (ps := [(0, vI (r11.2)), (1, vI (r21.2)), (3, sl Ab1u35 (r31.2) cb1u35), (4, sl Ab1u45 (r41.2) cb1u45)]) (cells := #[vI (r11.2), vI (r21.2), .slice (none) (0) (0), sl Ab1u35 (r31.2) cb1u35, sl Ab1u45 (r41.2) cb1u45]) s rfl (by kernel_rfl)) fun a s => ?_
 refine l_seq rfl (l_alloc (zs := [vI 0, vI 0, .slice (none) (0) (0), .slice (none) (0) (0), .slice (none) (0) (0)]) s 2505 rfl rfl rfl rfl fun b47 a w hb hK s => ?_)
 refine l_seq rfl (l_store (n := 5) (cs' := [vI (r11.2), vI (r21.2), .slice (none) (0) (0), sl Ab1u35 (r31.2) cb1u35, sl Ab1u45 (r41.2) cb1u45]) s 2505 rfl rfl rfl rfl rfl rfl rfl rfl ?_); clear s; intro w hK s; clear hK
 apply wN
 apply wQ
 apply wQ
 obtain ⟨k48, hg, hk48⟩ := jn_some hg
 refine c_post (fun a w => ∃ (t_49 : Bool), k48 t_49 = some r ∧ St (⟨Tryz.f48.ntmps, M, noB, w0⟩ : Ctx) [(2, vP b2 0), (8, vP b10 0), (9, vP b47 0), (67, .bool (t_49))] [(1000, Ob.box b2 [vI 0, vI 0, .slice (none) (0) (0), .slice (none) (0) (0), .slice (none) (0) (0)] 26), (1702, Ob.box b10 [vT (r41.1.s_), vI (r41.1.at_), vI (r41.1.e_), sl Am04u45 (r41.1.sorts_) cm04u45, sl Am05u45 (r41.1.texts_) cm05u45] 82), (2505, Ob.box b47 [vI (r11.2), vI (r21.2), .slice (none) (0) (0), sl Ab1u35 (r31.2) cb1u35, sl Ab1u45 (r41.2) cb1u45] 26), (800107, Ob.row (Am04u45) ((r41.1.sorts_).length) (cm04u45) 9 1 (csm0_3u45)), (800109, Ob.row (Am05u45) ((r41.1.texts_).length) (cm05u45) 9 1 (csm0_4u45))] [(130, slF REP (Ab1u35) ((r31.2).length) (cb1u35) (r31.2)), (138, rdF Rep.str (csm0_3u45) (r41.1.sorts_)), (139, rdF Rep.str (csm0_4u45) (r41.1.texts_)), (140, slF RQeq (Ab1u45) ((r41.2).length) (cb1u45) (r41.2))] a w) ?_ ?_
 ·rcases Decidable.em (r41.1.e_ = 0) with hs50 | hs50
  ·have hs50e := decide_eq_true hs50
   replace hg := br_t hg hs50
   apply wL
   refine qq s rfl (y_boxField (o' := 2) s rfl underlying82 rfl rfl rfl) fun a s => ?_
   refine qq s rfl (y_loadBox1 (kk := 1702) s rfl rfl rfl underlying36 rfl) fun a s => ?_
   refine qq s rfl (yl_b (y_eql s rfl rfl) hs50e) fun a s => ?_
   refine mv s rfl rfl fun a s => ?_
   refine gy s rfl (y_boxField (o' := 1) s rfl underlying82 rfl rfl rfl) fun a s => ?_
   refine gy s rfl (y_loadBox1 (kk := 1702) s rfl rfl rfl underlying3 rfl) fun a s => ?_
   refine gm s rfl rfl fun a s => ?_
   refine gy s rfl (y_lenStrN s rfl underlying9) fun a s => ?_
   refine gy s rfl (y_lss s rfl rfl) fun a s => ?_
   refine qq s rfl (y_pick_t s rfl rfl) fun a s => ?_
   apply wN
   exact ⟨(decide (r41.1.at_ < (((t_).length : Nat) : Int))), hg, (s.sb rfl rfl rfl)⟩
  have hs50e := decide_eq_false hs50
  replace hg := br_f hg hs50
  apply wL
  refine qq s rfl (y_boxField (o' := 2) s rfl underlying82 rfl rfl rfl) fun a s => ?_
  refine qq s rfl (y_loadBox1 (kk := 1702) s rfl rfl rfl underlying36 rfl) fun a s => ?_
  refine qq s rfl (yl_b (y_eql s rfl rfl) hs50e) fun a s => ?_
  refine mv s rfl rfl fun a s => ?_
  refine gn s rfl fun a s => ?_
  refine gn s rfl fun a s => ?_
  refine gn s rfl fun a s => ?_
  refine gn s rfl fun a s => ?_
  refine gn s rfl fun a s => ?_
  refine qq s rfl (y_pick_f s rfl rfl) fun a s => ?_
  apply wN
  exact ⟨(false), hg, (s.sb rfl rfl rfl)⟩
 clear s a; rintro a w ⟨t_49, hg, s⟩
 subst hk48
 obtain ⟨k51, hg, hk51⟩ := jn_some hg
 refine c_post (fun a w => ∃ (b_52 : (List UInt8)) (b_53 : Int) (b_54 : Int) (b_55 : (List (List UInt8))) (b_59 : (List (List UInt8))) (A56 : Option Addr) (c57 : Nat) (cs58 : List Value) (A60 : Option Addr) (c61 : Nat) (cs62 : List Value), k51 b_52 b_53 b_54 b_55 b_59 = some r ∧ ((b_52).length ≤ 9223372036854775807) ∧ St (⟨Tryz.f48.ntmps, M, noB, w0⟩ : Ctx) [(2, vP b2 0), (8, vP b10 0), (9, vP b47 0)] [(1000, Ob.box b2 [vI 0, vI 0, .slice (none) (0) (0), .slice (none) (0) (0), .slice (none) (0) (0)] 26), (1702, Ob.box b10 [vT b_52, vI b_53, vI b_54, sl A56 (b_55) c57, sl A60 (b_59) c61] 82), (2505, Ob.box b47 [vI (r11.2), vI (r21.2), .slice (none) (0) (0), sl Ab1u35 (r31.2) cb1u35, sl Ab1u45 (r41.2) cb1u45] 26), (700141, Ob.row (A56) ((b_55).length) (c57) 9 1 (cs58)), (700143, Ob.row (A60) ((b_59).length) (c61) 9 1 (cs62))] [(130, slF REP (Ab1u35) ((r31.2).length) (cb1u35) (r31.2)), (140, slF RQeq (Ab1u45) ((r41.2).length) (cb1u45) (r41.2)), (142, rdF Rep.str (cs58) (b_55)), (144, rdF Rep.str (cs62) (b_59))] a w) ?_ ?_
 ·refine c_cond s rfl (fun hc63 => ?_) (fun hc63 => ?_)
  ·replace hg := br_t hg hc63
   obtain ⟨r64, hr64, hg⟩ := bind_some hg
   apply wL
   refine qq s rfl (y_loadAll (kk := 1702) s rfl rfl underlying82 rfl rfl) fun a s => ?_
   have hT := s.pk [(1000, 1000), (1702, 1702), (2505, 2505), (9200003, 800107), (9200004, 800109)] (by decide)
   replace hT := hT.al 9300003 138 rfl
   replace hT := hT.al 9300004 139 rfl
   refine l_seq rfl (l_callMut (cap := []) hT _ [] (sbA (by rfl)) trivial (by rfl) rfl func71 rfl (by kernel_rfl) rfl rfl (c_r39_fail n _ _ (hT.restLt [1000, 1702, 2505]) _ r41.1 (Am04u45) (cm04u45) (Am05u45) (cm05u45) (csm0_3u45) (csm0_4u45) (by omega) (hT.wd.lendL _ _ _ (sbA (by rfl)) (keep_sub [1000, 1702, 2505]) (by rfl) (sbA (by rfl))) r64 hr64) ?_); intro v67 a' w' hK hp hF
   obtain ⟨Am04u68, cm04u68, csm0_3u68, Am05u68, cm05u68, csm0_4u68, rfl, lm01u68, hWu68⟩ := hp
   have hS2 := St.mk hF (hT.wd.back (sbA (by rfl)) (keep_sub [1000, 1702, 2505]) (by rfl) hWu68 (by rfl))
   clear s hT hF hWu68 hK; revert hS2; revert w'; revert a'; intro a w s
   replace s := s.al 147 9300003 rfl
   replace s := s.al 148 9300004 rfl
   replace s := s.ren [(1000, Ob.box b2 [vI 0, vI 0, .slice (none) (0) (0), .slice (none) (0) (0), .slice (none) (0) (0)] 26), (1702, Ob.box b10 [vT (r41.1.s_), vI (r41.1.at_), vI (r41.1.e_), sl Am04u45 (r41.1.sorts_) cm04u45, sl Am05u45 (r41.1.texts_) cm05u45] 82), (2505, Ob.box b47 [vI (r11.2), vI (r21.2), .slice (none) (0) (0), sl Ab1u35 (r31.2) cb1u35, sl Ab1u45 (r41.2) cb1u45] 26), (800107, Ob.row (Am04u68) ((r64.sorts_).length) (cm04u68) 9 1 (csm0_3u68)), (800109, Ob.row (Am05u68) ((r64.texts_).length) (cm05u68) 9 1 (csm0_4u68))] [1000, 1702, 2505, 9200003, 9200004] ⟨rfl, rfl, rfl, rfl, rfl, trivial⟩ (by decide)
   refine l_seq rfl (l_store (n := 5) (cs' := [vT (r64.s_), vI (r64.at_), vI (r64.e_), sl Am04u68 (r64.sorts_) cm04u68, sl Am05u68 (r64.texts_) cm05u68]) s 1702 rfl rfl rfl rfl rfl rfl rfl rfl ?_); clear s; intro w hK s; clear hK
   apply wN
   replace s := s.al 142 147 rfl
   replace s := s.al 144 148 rfl
   replace s := s.pk [(1000, 1000), (1702, 1702), (2505, 2505), (700141, 800107), (700143, 800109)] (by decide)
   exact ⟨(r64.s_), (r64.at_), (r64.e_), (r64.sorts_), (r64.texts_), (Am04u68), (cm04u68), (csm0_3u68), (Am05u68), (cm05u68), (csm0_4u68), hg, (by omega), (s.sb rfl rfl rfl)⟩
  replace hg := br_n hg hc63
  apply wp_skip
  apply pN
  replace s := s.al 142 138 rfl
  replace s := s.al 144 139 rfl
  replace s := s.pk [(1000, 1000), (1702, 1702), (2505, 2505), (700141, 800107), (700143, 800109)] (by decide)
  exact ⟨(r41.1.s_), (r41.1.at_), (r41.1.e_), (r41.1.sorts_), (r41.1.texts_), (Am04u45), (cm04u45), (csm0_3u45), (Am05u45), (cm05u45), (csm0_4u45), hg, (by omega), (s.sb rfl rfl rfl)⟩
 clear s a; rintro a w ⟨b_52, b_53, b_54, b_55, b_59, A56, c57, cs58, A60, c61, cs62, hg, lb_52, s⟩
 subst hk51
 apply wQ
 apply wR
 refine qq s rfl (y_boxField (o' := 2) s rfl underlying82 rfl rfl rfl) fun a s => ?_
 refine qq s rfl (y_loadBox1 (kk := 1702) s rfl rfl rfl underlying36 rfl) fun a s => ?_
 refine qq s rfl (y_neq s rfl rfl) fun a s => ?_
 apply wN
 refine c_dec s rfl (fun hc69 => ?_) (fun hc69 => ?_)
 ·replace hg := br_t hg hc69
  apply wQ
  refine d_plan s [(3, 1000)] [(0, some 0), (1, some 0), (2, some 1702), (3, none), (4, none)] rfl (by kernel_rfl) (by kernel_rfl) rfl ?_; clear s; intro wr hZ s; have hR := s.wd
  refine qt s hR rfl (y_build (parts := []) (ps := []) (cells := #[vI 0, vI 0, .slice (none) (0) (0), .slice (none) (0) (0), .slice (none) (0) (0)]) s rfl (by kernel_rfl)) fun a s => ?_
  refine qt s hR rfl (y_boxField (o' := 2) s rfl underlying82 rfl rfl rfl) fun a s => ?_
  refine qt s hR rfl (y_loadBox1 (kk := 1702) s rfl rfl rfl underlying36 rfl) fun a s => ?_
  refine l_take s rfl rfl (l_store (n := 5) (cs' := [vI 0, vI 0, .slice (none) (0) (0), .slice (none) (0) (0), .slice (none) (0) (0)]) s 1000 rfl rfl rfl rfl rfl rfl rfl rfl ?_); clear s; intro w hK s; replace hZ := Nat.le_trans hZ hK.size
  refine ⟨fun g hg h => h.obj hR (kk := 1000) rfl hK (by rintro rfl; exact absurd hg (by decide)), ?_⟩; clear hK
  refine l_take s rfl rfl (l_quiet s rfl rfl (y_assign s rfl) fun a s => ?_); refine ⟨fun g _ h => h, ?_⟩
  clear hR hZ
  apply pN
  apply wp_ret
  refine p_thenR ?_
  obtain rfl := Option.some.inj hg
  refine fin2 (fn := Tryz.f48) s rfl (r_cell (kk := 1000) (n := 5) (vs := [vI 0, vI 0, .slice (none) (0) (0), .slice (none) (0) (0), .slice (none) (0) (0)]) s rfl rfl underlying26 rfl rfl rfl rfl) (r_tmp s rfl) ?_
  exact ⟨(none), (0), (none), (0), (none), (0), rfl, (SlR.nil_ _ _ _), (SlR.nil_ _ _ _), (SlR.nil_ _ _ _)⟩
 replace hg := br_f hg hc69
 apply wp_skip
 apply pN
 apply wQ
 obtain ⟨r70, hr70, hg⟩ := bind_some hg
 apply wL
 refine qq s rfl (y_loadAll (kk := 1702) s rfl rfl underlying82 rfl rfl) fun a s => ?_
 replace s := s.freeze (R := Rep.str) (kk := 700141) (L' := [(1000, Ob.box b2 [vI 0, vI 0, .slice (none) (0) (0), .slice (none) (0) (0), .slice (none) (0) (0)] 26), (1702, Ob.box b10 [vT b_52, vI b_53, vI b_54, sl A56 (b_55) c57, sl A60 (b_59) c61] 82), (2505, Ob.box b47 [vI (r11.2), vI (r21.2), .slice (none) (0) (0), sl Ab1u35 (r31.2) cb1u35, sl Ab1u45 (r41.2) cb1u45] 26), (700143, Ob.row (A60) ((b_59).length) (c61) 9 1 (cs62))]) 153 rfl rfl (s.ft 142 rfl) ⟨rfl, rfl, rfl, rfl, trivial⟩ rfl
 replace s := s.freeze (R := Rep.str) (kk := 700143) (L' := [(1000, Ob.box b2 [vI 0, vI 0, .slice (none) (0) (0), .slice (none) (0) (0), .slice (none) (0) (0)] 26), (1702, Ob.box b10 [vT b_52, vI b_53, vI b_54, sl A56 (b_55) c57, sl A60 (b_59) c61] 82), (2505, Ob.box b47 [vI (r11.2), vI (r21.2), .slice (none) (0) (0), sl Ab1u35 (r31.2) cb1u35, sl Ab1u45 (r41.2) cb1u45] 26)]) 154 rfl rfl (s.ft 144 rfl) ⟨rfl, rfl, rfl, trivial⟩ rfl
 refine l_seq rfl (l_call (cap := []) s rfl func72 rfl (by kernel_rfl) rfl rfl (c_r39_numbers n _ _ s.lt (reader.mk b_52 b_53 b_54 b_55 b_59) (A56) (c57) (A60) (c61) (by omega) (s.ft 153 rfl) (s.ft 154 rfl) r70 hr70) fun v73 a w hK hp s => ?_)
 obtain ⟨Au74a1, cu74a1, Au74b1, cu74b1, rfl, hu74a1, hu74b1⟩ := hp
 replace s := s.ns 155 hu74a1
 replace s := s.ns 156 hu74b1
 refine mv s rfl rfl fun a s => ?_
 refine qq s rfl (y_extract s rfl rfl) fun a s => ?_
 refine qq s rfl (y_extract s rfl rfl) fun a s => ?_
 refine qq s rfl (y_extract s rfl rfl) fun a s => ?_
 refine asg s rfl rfl fun a s => ?_
 refine asg s rfl rfl fun a s => ?_
 refine asg s rfl rfl fun a s => ?_
 apply wN
 apply wQ
 apply wR
 refine mv s rfl rfl fun a s => ?_
 refine qq s rfl (y_neq s rfl rfl) fun a s => ?_
 apply wN
 refine c_dec s rfl (fun hc75 => ?_) (fun hc75 => ?_)
 ·replace hg := br_t hg hc75
  apply wR
  refine qq s rfl (y_build (parts := []) (ps := []) (cells := #[vI 0, vI 0, .slice (none) (0) (0), .slice (none) (0) (0), .slice (none) (0) (0)]) s rfl (by kernel_rfl)) fun a s => ?_
  refine mv s rfl rfl fun a s => ?_
  refine l_seq rfl (l_store (n := 5) (cs' := [vI 0, vI 0, .slice (none) (0) (0), .slice (none) (0) (0), .slice (none) (0) (0)]) s 1000 rfl rfl rfl rfl rfl rfl rfl rfl ?_); clear s; intro w hK s; clear hK
  refine asg s rfl rfl fun a s => ?_
  apply wN
  apply wp_ret
  refine p_thenR ?_
  obtain rfl := Option.some.inj hg
  refine fin2 (fn := Tryz.f48) s rfl (r_cell (kk := 1000) (n := 5) (vs := [vI 0, vI 0, .slice (none) (0) (0), .slice (none) (0) (0), .slice (none) (0) (0)]) s rfl rfl underlying26 rfl rfl rfl rfl) (r_tmp s rfl) ?_
  exact ⟨(none), (0), (none), (0), (none), (0), rfl, (SlR.nil_ _ _ _), (SlR.nil_ _ _ _), (SlR.nil_ _ _ _)⟩
 replace hg := br_f hg hc75
 apply wp_skip
 apply pN
 apply wQ
 obtain ⟨x77, hx77, hg⟩ := bind_some hg
 obtain ⟨x80, hx80, hg⟩ := bind_some hg
 refine d_plan s [] [(0, some 0), (1, some 0), (2, some 2505), (3, some 0), (4, some 0), (5, some 0), (6, some 0), (7, some 2505), (8, some 0), (9, some 0), (10, some 0), (11, some 0), (12, none), (13, none)] rfl (by kernel_rfl) (by kernel_rfl) rfl ?_; clear s; intro wr hZ s; have hR := s.wd
 refine qt s hR rfl (y_move s rfl) fun a s => ?_
 refine qt s hR rfl (y_boxField (o' := 0) s rfl underlying26 rfl rfl rfl) fun a s => ?_
 refine qt s hR rfl (y_loadBox1 (kk := 2505) s rfl rfl rfl underlying3 rfl) fun a s => ?_
 obtain ⟨p83, hep83, hpp83⟩ := SlR.elemX (s.ft 155 rfl) (ix_some hx77).1
 refine qt s hR rfl (y_elem (sz := 1) (i := ((r11.2).toNat)) s rfl rfl underlying30 rfl hep83 (ix_some hx77).2.1 (lt_of_get (ix_some hx77).1)) fun a s => ?_
 obtain ⟨hlq84, hmq84, csq84, hdq84, hcq84⟩ := hpp83
 obtain rfl := hdq84
 refine qt s hR rfl (y_ldp1 s rfl hlq84 hmq84 (hcq84 0 _ rfl) underlying3 rfl) fun a s => ?_
 refine qt s hR rfl (y_move s rfl) fun a s => ?_
 refine qt s hR rfl (y_boxField (o' := 1) s rfl underlying26 rfl rfl rfl) fun a s => ?_
 refine qt s hR rfl (y_loadBox1 (kk := 2505) s rfl rfl rfl underlying3 rfl) fun a s => ?_
 obtain ⟨p85, hep85, hpp85⟩ := SlR.elemX (s.ft 155 rfl) (ix_some hx80).1
 refine qt s hR rfl (y_elem (sz := 1) (i := ((r21.2).toNat)) s rfl rfl underlying30 rfl hep85 (ix_some hx80).2.1 (lt_of_get (ix_some hx80).1)) fun a s => ?_
 obtain ⟨hlq86, hmq86, csq86, hdq86, hcq86⟩ := hpp85
 obtain rfl := hdq86
 refine qt s hR rfl (y_ldp1 s rfl hlq86 hmq86 (hcq86 0 _ rfl) underlying3 rfl) fun a s => ?_
 refine qt s hR rfl (y_move s rfl) fun a s => ?_
 refine qt s hR rfl (y_build (parts := [(0, .tmp 90), (1, .tmp 95), (2, .tmp 96)]) (ps := [(0, vI x77), (1, vI x80), (2, sl Au74b1 (r70.2.1) cu74b1)]) (cells := #[vI x77, vI x80, sl Au74b1 (r70.2.1) cu74b1, .slice (none) (0) (0), .slice (none) (0) (0)]) s rfl (by kernel_rfl)) fun a s => ?_
 refine l_take s rfl rfl (l_alloc (zs := [vI 0, vI 0, .slice (none) (0) (0), .slice (none) (0) (0), .slice (none) (0) (0)]) s 3312 rfl rfl rfl rfl fun b87 a w hb hK s => ?_)
 have hNb87 := Nat.le_trans hZ hb
 replace hZ := Nat.le_trans hZ hK.size; refine ⟨fun g _ h => h.grow hK, ?_⟩; clear hK
 refine l_take s rfl rfl (l_store (n := 5) (cs' := [vI x77, vI x80, sl Au74b1 (r70.2.1) cu74b1, .slice (none) (0) (0), .slice (none) (0) (0)]) s 3312 rfl rfl rfl rfl rfl rfl rfl rfl ?_); clear s; intro w hK s; replace hZ := Nat.le_trans hZ hK.size
 refine ⟨fun g _ h => h.app hR hK (fun x e => by cases e; exact hNb87), ?_⟩; clear hK
 clear hR hZ
 apply pN
 apply wQ
 apply wR
 refine asg s rfl rfl fun a s => ?_
 apply wN
 obtain ⟨k88, hg, hk88⟩ := jn_some hg
 refine c_post (fun a w => ∃ (b_89 : (List EP)) (A90 : Option Addr) (c91 : Nat) (cs92 : List Value), k88 b_89 = some r ∧ St (⟨Tryz.f48.ntmps, M, noB, w0⟩ : Ctx) [(2, vP b2 0), (9, vP b47 0), (10, sl Au74a1 (r70.1) cu74a1), (13, vP b87 0)] [(1000, Ob.box b2 [vI 0, vI 0, .slice (none) (0) (0), .slice (none) (0) (0), .slice (none) (0) (0)] 26), (2505, Ob.box b47 [vI (r11.2), vI (r21.2), .slice (none) (0) (0), sl Ab1u35 (r31.2) cb1u35, sl Ab1u45 (r41.2) cb1u45] 26), (3312, Ob.box b87 [vI x77, vI x80, sl Au74b1 (r70.2.1) cu74b1, sl A90 (b_89) c91, .slice (none) (0) (0)] 26), (700157, Ob.row (A90) ((b_89).length) (c91) 43 3 (cs92))] [(130, slF REP (Ab1u35) ((r31.2).length) (cb1u35) (r31.2)), (140, slF RQeq (Ab1u45) ((r41.2).length) (cb1u45) (r41.2)), (155, slF (Rep.num .i64) (Au74a1) ((r70.1).length) (cu74a1) (r70.1)), (156, slF Rep.str (Au74b1) ((r70.2.1).length) (cu74b1) (r70.2.1)), (158, rdF REP (cs92) (b_89))] a w) ?_ ?_
 ·apply wp_block
  replace s := s.nilRow 700159 43 3 rfl
  replace s := s.add 160 (rdF REP [] []) (RdAll.nil _ _ _)
  refine c_loop (σ := Nat) (fun m1 a w => ∃ (t_93 : Nat) (b_94 : (List EP)) (A95 : Option Addr) (c96 : Nat) (cs97 : List Value), r39_Parse_L0 n r31 r70 k88 m1 t_93 b_94 = some r ∧ St (⟨Tryz.f48.ntmps, M, noB, w0⟩ : Ctx) [(2, vP b2 0), (9, vP b47 0), (10, sl Au74a1 (r70.1) cu74a1), (13, vP b87 0), (14, vI (((t_93 : Nat) : Int)))] [(1000, Ob.box b2 [vI 0, vI 0, .slice (none) (0) (0), .slice (none) (0) (0), .slice (none) (0) (0)] 26), (2505, Ob.box b47 [vI (r11.2), vI (r21.2), .slice (none) (0) (0), sl Ab1u35 (r31.2) cb1u35, sl Ab1u45 (r41.2) cb1u45] 26), (3312, Ob.box b87 [vI x77, vI x80, sl Au74b1 (r70.2.1) cu74b1, sl A95 (b_94) c96, .slice (none) (0) (0)] 26), (700159, Ob.row (A95) ((b_94).length) (c96) 43 3 (cs97))] [(130, slF REP (Ab1u35) ((r31.2).length) (cb1u35) (r31.2)), (140, slF RQeq (Ab1u45) ((r41.2).length) (cb1u45) (r41.2)), (155, slF (Rep.num .i64) (Au74a1) ((r70.1).length) (cu74a1) (r70.1)), (156, slF Rep.str (Au74b1) ((r70.2.1).length) (cu74b1) (r70.2.1)), (160, rdF REP (cs97) (b_94))] a w) (fun m1 => m1) n ⟨(0), ([]), (none), (0), ([]), hg, (s.sb rfl rfl rfl)⟩ ?_
  clear s a; rintro m1 a w ⟨t_93, b_94, A95, c96, cs97, hg, s⟩
  rcases m1 with _ | m1
  ·rw [r39_Parse_L0] at hg; cases hg
  rw [r39_Parse_L0] at hg
  apply wQ
  apply wR
  refine mv s rfl rfl fun a s => ?_
  refine qq s rfl (y_boxField (o' := 3) s rfl underlying26 rfl rfl rfl) fun a s => ?_
  refine qq s rfl (y_loadBox1 (kk := 2505) s rfl rfl rfl underlying23 rfl) fun a s => ?_
  refine qq s rfl (y_lenSlice s rfl underlying23) fun a s => ?_
  refine qq s rfl (y_lssN (i := t_93) (j := ((r31.2).length)) s rfl rfl) fun a s => ?_
  apply wN
  refine c_dec s rfl (fun hc98 => ?_) (fun hc98 => ?_)
  ·replace hg := br_t hg hc98
   have hmx99 := SlR.mx (s.ft 130 rfl)
   apply wp_skip
   apply pN
   apply wQ
   apply wp_block
   apply wQ
   obtain ⟨x101, hx101, hg⟩ := bind_some hg
   obtain ⟨x106, hx106, hg⟩ := bind_some hg
   refine d_plan s [] [(0, some 0), (1, some 2505), (2, some 0), (3, some 0), (4, some 0), (5, some 0), (6, some 0), (7, some 0), (8, some 2505), (9, some 0), (10, some 0), (11, some 0), (12, some 0), (13, some 0), (14, some 0), (15, some 0), (16, none), (17, none)] rfl (by kernel_rfl) (by kernel_rfl) rfl ?_; clear s; intro wr hZ s; have hR := s.wd
   refine qt s hR rfl (y_boxField (o' := 3) s rfl underlying26 rfl rfl rfl) fun a s => ?_
   refine qt s hR rfl (y_loadBox1 (kk := 2505) s rfl rfl rfl underlying23 rfl) fun a s => ?_
   refine qt s hR rfl (y_move s rfl) fun a s => ?_
   obtain ⟨p109, hep109, hpp109⟩ := SlR.elemX (s.ft 130 rfl) hx101
   refine qt s hR rfl (y_elem (sz := 3) (i := t_93) s rfl rfl underlying23 rfl hep109 rfl (lt_of_get hx101)) fun a s => ?_
   refine qt s hR rfl (y_ptrField (o' := 0) s rfl underlying43 rfl rfl rfl) fun a s => ?_
   obtain ⟨hlq110, hmq110, csq110, hdq110, hcq110⟩ := hpp109
   obtain ⟨Aq1103, cq1103, rfl, lq1101, hq1103⟩ := REP.open hdq110
   replace s := s.ns 163 hq1103
   refine qt s hR rfl (y_ldp1 s rfl hlq110 hmq110 (hcq110 0 _ rfl) underlying9 rfl) fun a s => ?_
   refine qt s hR rfl (y_move s rfl) fun a s => ?_
   refine qt s hR rfl (y_boxField (o' := 3) s rfl underlying26 rfl rfl rfl) fun a s => ?_
   refine qt s hR rfl (y_loadBox1 (kk := 2505) s rfl rfl rfl underlying23 rfl) fun a s => ?_
   refine qt s hR rfl (y_move s rfl) fun a s => ?_
   obtain ⟨p111, hep111, hpp111⟩ := SlR.elemX (s.ft 130 rfl) hx101
   refine qt s hR rfl (y_elem (sz := 3) (i := t_93) s rfl rfl underlying23 rfl hep111 rfl (lt_of_get hx101)) fun a s => ?_
   refine qt s hR rfl (y_ptrField (o' := 1) s rfl underlying43 rfl rfl rfl) fun a s => ?_
   obtain ⟨hlq112, hmq112, csq112, hdq112, hcq112⟩ := hpp111
   obtain ⟨Aq1123, cq1123, rfl, lq1121, hq1123⟩ := REP.open hdq112
   replace s := s.ns 164 hq1123
   refine qt s hR rfl (y_ldp1 s rfl hlq112 hmq112 (hcq112 1 _ rfl) underlying3 rfl) fun a s => ?_
   obtain ⟨p113, hep113, hpp113⟩ := SlR.elemX (s.ft 155 rfl) (ix_some hx106).1
   refine qt s hR rfl (y_elem (sz := 1) (i := ((x101.Label).toNat)) s rfl rfl underlying30 rfl hep113 (ix_some hx106).2.1 (lt_of_get (ix_some hx106).1)) fun a s => ?_
   obtain ⟨hlq114, hmq114, csq114, hdq114, hcq114⟩ := hpp113
   obtain rfl := hdq114
   refine qt s hR rfl (y_ldp1 s rfl hlq114 hmq114 (hcq114 0 _ rfl) underlying3 rfl) fun a s => ?_
   refine qt s hR rfl (y_build (parts := [(0, .tmp 110), (1, .tmp 119)]) (ps := [(0, vT (x101.Pred)), (1, vI x106)]) (cells := #[vT (x101.Pred), vI x106, .slice (none) (0) (0)]) s rfl (by kernel_rfl)) fun a s => ?_
   refine l_take s rfl rfl (l_alloc (zs := [vT ([]), vI 0, .slice (none) (0) (0)]) s 3716 rfl rfl rfl rfl fun b115 a w hb hK s => ?_)
   have hNb115 := Nat.le_trans hZ hb
   replace hZ := Nat.le_trans hZ hK.size; refine ⟨fun g _ h => h.grow hK, ?_⟩; clear hK
   refine l_take s rfl rfl (l_store (n := 3) (cs' := [vT (x101.Pred), vI x106, .slice (none) (0) (0)]) s 3716 rfl rfl rfl rfl rfl rfl rfl rfl ?_); clear s; intro w hK s; replace hZ := Nat.le_trans hZ hK.size
   refine ⟨fun g _ h => h.app hR hK (fun x e => by cases e; exact hNb115), ?_⟩; clear hK
   clear hR hZ
   apply pN
   apply wQ
   apply wR
   refine asg s rfl rfl fun a s => ?_
   apply wN
   obtain ⟨k116, hg, hk116⟩ := jn_some hg
   refine c_post (fun a w => ∃ (b_117 : (List Arg)) (A118 : Option Addr) (c119 : Nat) (cs120 : List Value), k116 b_117 = some r ∧ St (⟨Tryz.f48.ntmps, M, noB, w0⟩ : Ctx) [(2, vP b2 0), (9, vP b47 0), (10, sl Au74a1 (r70.1) cu74a1), (13, vP b87 0), (14, vI (((t_93 : Nat) : Int))), (15, vP b115 0)] [(1000, Ob.box b2 [vI 0, vI 0, .slice (none) (0) (0), .slice (none) (0) (0), .slice (none) (0) (0)] 26), (2505, Ob.box b47 [vI (r11.2), vI (r21.2), .slice (none) (0) (0), sl Ab1u35 (r31.2) cb1u35, sl Ab1u45 (r41.2) cb1u45] 26), (3312, Ob.box b87 [vI x77, vI x80, sl Au74b1 (r70.2.1) cu74b1, sl A95 (b_94) c96, .slice (none) (0) (0)] 26), (3716, Ob.box b115 [vT (x101.Pred), vI x106, sl A118 (b_117) c119] 43), (700159, Ob.row (A95) ((b_94).length) (c96) 43 3 (cs97)), (700165, Ob.row (A118) ((b_117).length) (c119) 45 2 (cs120))] [(130, slF REP (Ab1u35) ((r31.2).length) (cb1u35) (r31.2)), (140, slF RQeq (Ab1u45) ((r41.2).length) (cb1u45) (r41.2)), (155, slF (Rep.num .i64) (Au74a1) ((r70.1).length) (cu74a1) (r70.1)), (156, slF Rep.str (Au74b1) ((r70.2.1).length) (cu74b1) (r70.2.1)), (160, rdF REP (cs97) (b_94)), (166, rdF RArg (cs120) (b_117))] a w) ?_ ?_
   ·apply wp_block
    replace s := s.nilRow 700167 45 2 rfl
    replace s := s.add 168 (rdF RArg [] []) (RdAll.nil _ _ _)
    refine c_loop (σ := Nat) (fun m2 a w => ∃ (t_121 : Nat) (b_122 : (List Arg)) (A123 : Option Addr) (c124 : Nat) (cs125 : List Value), r39_Parse_L1 n r70 x101 k116 m2 t_121 b_122 = some r ∧ St (⟨Tryz.f48.ntmps, M, noB, w0⟩ : Ctx) [(2, vP b2 0), (9, vP b47 0), (10, sl Au74a1 (r70.1) cu74a1), (13, vP b87 0), (14, vI (((t_93 : Nat) : Int))), (15, vP b115 0), (16, vI (((t_121 : Nat) : Int)))] [(1000, Ob.box b2 [vI 0, vI 0, .slice (none) (0) (0), .slice (none) (0) (0), .slice (none) (0) (0)] 26), (2505, Ob.box b47 [vI (r11.2), vI (r21.2), .slice (none) (0) (0), sl Ab1u35 (r31.2) cb1u35, sl Ab1u45 (r41.2) cb1u45] 26), (3312, Ob.box b87 [vI x77, vI x80, sl Au74b1 (r70.2.1) cu74b1, sl A95 (b_94) c96, .slice (none) (0) (0)] 26), (3716, Ob.box b115 [vT (x101.Pred), vI x106, sl A123 (b_122) c124] 43), (700159, Ob.row (A95) ((b_94).length) (c96) 43 3 (cs97)), (700167, Ob.row (A123) ((b_122).length) (c124) 45 2 (cs125))] [(130, slF REP (Ab1u35) ((r31.2).length) (cb1u35) (r31.2)), (140, slF RQeq (Ab1u45) ((r41.2).length) (cb1u45) (r41.2)), (155, slF (Rep.num .i64) (Au74a1) ((r70.1).length) (cu74a1) (r70.1)), (156, slF Rep.str (Au74b1) ((r70.2.1).length) (cu74b1) (r70.2.1)), (160, rdF REP (cs97) (b_94)), (168, rdF RArg (cs125) (b_122))] a w) (fun m2 => m2) n ⟨(0), ([]), (none), (0), ([]), hg, (s.sb rfl rfl rfl)⟩ ?_
    clear s a; rintro m2 a w ⟨t_121, b_122, A123, c124, cs125, hg, s⟩
    rcases m2 with _ | m2
    ·rw [r39_Parse_L1] at hg; cases hg
    rw [r39_Parse_L1] at hg
    apply wQ
    apply wR
    refine mv s rfl rfl fun a s => ?_
    refine qq s rfl (y_boxField (o' := 3) s rfl underlying26 rfl rfl rfl) fun a s => ?_
    refine qq s rfl (y_loadBox1 (kk := 2505) s rfl rfl rfl underlying23 rfl) fun a s => ?_
    refine mv s rfl rfl fun a s => ?_
    obtain ⟨p128, hep128, hpp128⟩ := SlR.elemX (s.ft 130 rfl) hx101
    refine qq s rfl (y_elem (sz := 3) (i := t_93) s rfl rfl underlying23 rfl hep128 rfl (lt_of_get hx101)) fun a s => ?_
    refine qq s rfl (y_ptrField (o' := 2) s rfl underlying43 rfl rfl rfl) fun a s => ?_
    obtain ⟨hlq129, hmq129, csq129, hdq129, hcq129⟩ := hpp128
    obtain ⟨Aq1293, cq1293, rfl, lq1291, hq1293⟩ := REP.open hdq129
    replace s := s.ns 170 hq1293
    refine qq s rfl (y_ldp1 s rfl hlq129 hmq129 (hcq129 2 _ rfl) underlying41 rfl) fun a s => ?_
    refine qq s rfl (y_lenSlice s rfl underlying41) fun a s => ?_
    refine qq s rfl (y_lssN (i := t_121) (j := ((x101.Args).length)) s rfl rfl) fun a s => ?_
    apply wN
    refine c_dec s rfl (fun hc130 => ?_) (fun hc130 => ?_)
    ·replace hg := br_t hg hc130
     have hmx131 := SlR.mx (s.ft 170 rfl)
     apply wp_skip
     apply pN
     apply wQ
     apply wp_block
     obtain ⟨x135, hx135, hg⟩ := bind_some hg
     obtain ⟨x142, hx142, hg⟩ := bind_some hg
     obtain ⟨hk145, hg⟩ := chk_some hg
     refine d_plan s [(27, 700167), (29, 3716)] [(0, some 0), (1, some 3716), (2, some 0), (3, some 2505), (4, some 0), (5, some 0), (6, some 0), (7, some 0), (8, some 0), (9, some 0), (10, some 0), (11, some 0), (12, some 0), (13, some 0), (14, some 2505), (15, some 0), (16, some 0), (17, some 0), (18, some 0), (19, some 0), (20, some 0), (21, some 0), (22, some 0), (23, some 0), (24, some 0), (25, some 0), (26, none), (27, none), (28, none), (29, none)] rfl (by kernel_rfl) (by kernel_rfl) rfl ?_; clear s; intro wr hZ s; have hR := s.wd
     refine qt s hR rfl (y_boxField (o' := 2) s rfl underlying43 rfl rfl rfl) fun a s => ?_
     refine qt s hR rfl (y_loadBox1 (kk := 3716) s rfl rfl rfl underlying41 rfl) fun a s => ?_
     refine qt s hR rfl (y_boxField (o' := 3) s rfl underlying26 rfl rfl rfl) fun a s => ?_
     refine qt s hR rfl (y_loadBox1 (kk := 2505) s rfl rfl rfl underlying23 rfl) fun a s => ?_
     refine qt s hR rfl (y_move s rfl) fun a s => ?_
     obtain ⟨p148, hep148, hpp148⟩ := SlR.elemX (s.ft 130 rfl) hx101
     refine qt s hR rfl (y_elem (sz := 3) (i := t_93) s rfl rfl underlying23 rfl hep148 rfl (lt_of_get hx101)) fun a s => ?_
     refine qt s hR rfl (y_ptrField (o' := 2) s rfl underlying43 rfl rfl rfl) fun a s => ?_
     obtain ⟨hlq149, hmq149, csq149, hdq149, hcq149⟩ := hpp148
     obtain ⟨Aq1493, cq1493, rfl, lq1491, hq1493⟩ := REP.open hdq149
     replace s := s.ns 175 hq1493
     refine qt s hR rfl (y_ldp1 s rfl hlq149 hmq149 (hcq149 2 _ rfl) underlying41 rfl) fun a s => ?_
     refine qt s hR rfl (y_move s rfl) fun a s => ?_
     obtain ⟨p150, hep150, hpp150⟩ := SlR.elemX (s.ft 175 rfl) hx135
     refine qt s hR rfl (y_elem (sz := 2) (i := t_121) s rfl rfl underlying41 rfl hep150 rfl (lt_of_get hx135)) fun a s => ?_
     refine qt s hR rfl (y_ptrField (o' := 0) s rfl underlying45 rfl rfl rfl) fun a s => ?_
     obtain ⟨hlq151, hmq151, csq151, hdq151, hcq151⟩ := hpp150
     obtain ⟨rfl, lq1511⟩ := RArg.open hdq151
     refine qt s hR rfl (y_ldp1 s rfl hlq151 hmq151 (hcq151 0 _ rfl) underlying9 rfl) fun a s => ?_
     refine qt s hR rfl (y_move s rfl) fun a s => ?_
     refine qt s hR rfl (y_boxField (o' := 3) s rfl underlying26 rfl rfl rfl) fun a s => ?_
     refine qt s hR rfl (y_loadBox1 (kk := 2505) s rfl rfl rfl underlying23 rfl) fun a s => ?_
     refine qt s hR rfl (y_move s rfl) fun a s => ?_
     obtain ⟨p152, hep152, hpp152⟩ := SlR.elemX (s.ft 130 rfl) hx101
     refine qt s hR rfl (y_elem (sz := 3) (i := t_93) s rfl rfl underlying23 rfl hep152 rfl (lt_of_get hx101)) fun a s => ?_
     refine qt s hR rfl (y_ptrField (o' := 2) s rfl underlying43 rfl rfl rfl) fun a s => ?_
     obtain ⟨hlq153, hmq153, csq153, hdq153, hcq153⟩ := hpp152
     obtain ⟨Aq1533, cq1533, rfl, lq1531, hq1533⟩ := REP.open hdq153
     replace s := s.ns 176 hq1533
     refine qt s hR rfl (y_ldp1 s rfl hlq153 hmq153 (hcq153 2 _ rfl) underlying41 rfl) fun a s => ?_
     refine qt s hR rfl (y_move s rfl) fun a s => ?_
     obtain ⟨p154, hep154, hpp154⟩ := SlR.elemX (s.ft 176 rfl) hx135
     refine qt s hR rfl (y_elem (sz := 2) (i := t_121) s rfl rfl underlying41 rfl hep154 rfl (lt_of_get hx135)) fun a s => ?_
     refine qt s hR rfl (y_ptrField (o' := 1) s rfl underlying45 rfl rfl rfl) fun a s => ?_
     obtain ⟨hlq155, hmq155, csq155, hdq155, hcq155⟩ := hpp154
     obtain ⟨rfl, lq1551⟩ := RArg.open hdq155
     refine qt s hR rfl (y_ldp1 s rfl hlq155 hmq155 (hcq155 1 _ rfl) underlying3 rfl) fun a s => ?_
     obtain ⟨p156, hep156, hpp156⟩ := SlR.elemX (s.ft 155 rfl) (ix_some hx142).1
     refine qt s hR rfl (y_elem (sz := 1) (i := ((x135.Var).toNat)) s rfl rfl underlying30 rfl hep156 (ix_some hx142).2.1 (lt_of_get (ix_some hx142).1)) fun a s => ?_
     obtain ⟨hlq157, hmq157, csq157, hdq157, hcq157⟩ := hpp156
     obtain rfl := hdq157
     refine qt s hR rfl (y_ldp1 s rfl hlq157 hmq157 (hcq157 0 _ rfl) underlying3 rfl) fun a s => ?_
     refine qt s hR rfl (y_build (parts := [(0, .tmp 143), (1, .tmp 156)]) (ps := [(0, vT (x135.Role)), (1, vI x142)]) (cells := #[vT (x135.Role), vI x142]) s rfl (by kernel_rfl)) fun a s => ?_
     refine l_take s rfl rfl (l_buildDense (sz := 2) s 4126 rfl rfl rfl underlying41 rfl rfl rfl rfl rfl rfl rfl fun b158 a w hbb158 hK s => ?_)
     have hNb158 := NewA.lit hZ hbb158
     clear hbb158
     replace hZ := Nat.le_trans hZ hK.size; refine ⟨fun g _ h => h.grow hK, ?_⟩; clear hK
     replace s := s.add 177 (rdF RArg (cellsOfL [.agg #[vT (x135.Role), vI x142]]) ([(Arg.mk x135.Role x142)])) (RdAll.cons (by exact (RArg.mk' (x := (Arg.mk x135.Role x142)) (by omega))) (RdAll.nil _ _ _))
     have hs160 := row_src (s.wd.holds 4126 _ rfl) (RdAll.one (s.ft 177 rfl))
     refine l_take s rfl rfl (l_append (sz := 2) (by_ := 24) (N := (b_122 ++ [(Arg.mk x135.Role x142)]).length) (ys := cs125 ++ (cellsOfL [.agg #[vT (x135.Role), vI x142]])) s 700167 rfl rfl rfl underlying41 rfl rfl rfl rfl rfl hs160 (by simp) rfl (by have hr := hk145; clear hg; first | omega | (simp only [List.length_append, List.length_cons, List.length_nil] at hr ⊢; omega) | (simp at hr ⊢; omega)) (by have hr := hk145; clear hg; first | omega | (simp only [List.length_append, List.length_cons, List.length_nil] at hr ⊢; omega) | (simp at hr ⊢; omega)) rfl fun Aq159 cq159 a w hA hK s => ?_)
     replace hZ := Nat.le_trans hZ hK.size; refine ⟨fun g hg h => h.obj hR (kk := 700167) rfl hK (by rintro rfl; exact absurd hg (by decide)), ?_⟩
     replace s := s.add 178 (rdF RArg (cs125 ++ (cellsOfL [.agg #[vT (x135.Role), vI x142]])) (b_122 ++ [(Arg.mk x135.Role x142)])) (RdAll.append (s.ft 168 rfl) (s.ft 177 rfl))
     refine l_take s rfl rfl (l_quiet s rfl rfl (y_boxField (o' := 2) s rfl underlying43 rfl rfl rfl) fun a s => ?_); refine ⟨fun g _ h => h, ?_⟩
     refine l_take s rfl rfl (l_store (n := 1) (cs' := [vT (x101.Pred), vI x106, sl Aq159 (b_122 ++ [(Arg.mk x135.Role x142)]) cq159]) s 3716 rfl rfl rfl rfl rfl rfl rfl rfl ?_); clear s; intro w hK s; replace hZ := Nat.le_trans hZ hK.size
     refine ⟨fun g hg h => h.obj hR (kk := 3716) rfl hK (by rintro rfl; exact absurd hg (by decide)), ?_⟩; clear hK
     clear hR hZ
     refine p_inN ?_
     apply pN
     apply wL
     refine mv s rfl rfl fun a s => ?_
     refine qq s rfl (y_addN (i := t_121) (j := 1) s rfl rfl (in64.2 (by omega))) fun a s => ?_
     refine asg s rfl rfl fun a s => ?_
     apply wN
     replace s := s.add 168 (rdF RArg (cs125 ++ (cellsOfL [.agg #[vT (x135.Role), vI x142]])) (b_122 ++ [(Arg.mk x135.Role x142)])) (s.ft 178 rfl)
     exact ⟨m2, Nat.lt_succ_self _, ⟨(t_121 + 1), (b_122 ++ [(Arg.mk x135.Role x142)]), (Aq159), (cq159), (cs125 ++ (cellsOfL [.agg #[vT (x135.Role), vI x142]])), hg, (s.sb rfl rfl rfl)⟩⟩
    replace hg := br_f hg hc130
    apply wp_exit
    refine p_then ?_
    refine p_then ?_
    refine p_in ?_
    apply pN
    replace s := s.al 166 168 rfl
    replace s := s.pk [(1000, 1000), (2505, 2505), (3312, 3312), (3716, 3716), (700159, 700159), (700165, 700167)] (by decide)
    exact ⟨(b_122), (A123), (c124), (cs125), hg, (s.sb rfl rfl rfl)⟩
   clear s a; rintro a w ⟨b_117, A118, c119, cs120, hg, s⟩
   subst hk116
   obtain ⟨hk162, hg⟩ := chk_some hg
   apply wL
   refine qq s rfl (y_boxField (o' := 3) s rfl underlying26 rfl rfl rfl) fun a s => ?_
   refine qq s rfl (y_loadBox1 (kk := 3312) s rfl rfl rfl underlying23 rfl) fun a s => ?_
   refine qq s rfl (y_loadAll (kk := 3716) s rfl rfl underlying43 rfl rfl) fun a s => ?_
   replace s := s.freeze (R := RArg) (kk := 700165) (L' := [(1000, Ob.box b2 [vI 0, vI 0, .slice (none) (0) (0), .slice (none) (0) (0), .slice (none) (0) (0)] 26), (2505, Ob.box b47 [vI (r11.2), vI (r21.2), .slice (none) (0) (0), sl Ab1u35 (r31.2) cb1u35, sl Ab1u45 (r41.2) cb1u45] 26), (3312, Ob.box b87 [vI x77, vI x80, sl Au74b1 (r70.2.1) cu74b1, sl A95 (b_94) c96, .slice (none) (0) (0)] 26), (3716, Ob.box b115 [vT (x101.Pred), vI x106, sl A118 (b_117) c119] 43), (700159, Ob.row (A95) ((b_94).length) (c96) 43 3 (cs97))]) 182 rfl rfl (s.ft 166 rfl) ⟨rfl, rfl, rfl, rfl, rfl, trivial⟩ rfl
   refine l_seq rfl (l_buildDense (sz := 3) s 4203 rfl rfl rfl underlying23 rfl rfl rfl rfl rfl rfl rfl fun b165 a w hbb165 hK s => ?_)
   clear hbb165
   replace s := s.add 183 (rdF REP (cellsOfL [.agg #[vT (x101.Pred), vI x106, sl A118 (b_117) c119]]) ([(EP.mk x101.Pred x106 b_117)])) (RdAll.cons (by exact (REP.mk' (x := (EP.mk x101.Pred x106 b_117)) (by omega) (s.ft 182 rfl))) (RdAll.nil _ _ _))
   have hs167 := row_src (s.wd.holds 4203 _ rfl) (RdAll.one (s.ft 183 rfl))
   refine l_seq rfl (l_append (sz := 3) (by_ := 48) (N := (b_94 ++ [(EP.mk x101.Pred x106 b_117)]).length) (ys := cs97 ++ (cellsOfL [.agg #[vT (x101.Pred), vI x106, sl A118 (b_117) c119]])) s 700159 rfl rfl rfl underlying23 rfl rfl rfl rfl rfl hs167 (by simp) rfl (by have hr := hk162; clear hg; first | omega | (simp only [List.length_append, List.length_cons, List.length_nil] at hr ⊢; omega) | (simp at hr ⊢; omega)) (by have hr := hk162; clear hg; first | omega | (simp only [List.length_append, List.length_cons, List.length_nil] at hr ⊢; omega) | (simp at hr ⊢; omega)) rfl fun Aq166 cq166 a w hA hK s => ?_)
   replace s := s.add 184 (rdF REP (cs97 ++ (cellsOfL [.agg #[vT (x101.Pred), vI x106, sl A118 (b_117) c119]])) (b_94 ++ [(EP.mk x101.Pred x106 b_117)])) (RdAll.append (s.ft 160 rfl) (s.ft 183 rfl))
   refine qq s rfl (y_boxField (o' := 3) s rfl underlying26 rfl rfl rfl) fun a s => ?_
   refine l_seq rfl (l_store (n := 1) (cs' := [vI x77, vI x80, sl Au74b1 (r70.2.1) cu74b1, sl Aq166 (b_94 ++ [(EP.mk x101.Pred x106 b_117)]) cq166, .slice (none) (0) (0)]) s 3312 rfl rfl rfl rfl rfl rfl rfl rfl ?_); clear s; intro w hK s; clear hK
   apply wO
   refine p_inN ?_
   apply pN
   apply wL
   refine mv s rfl rfl fun a s => ?_
   refine qq s rfl (y_addN (i := t_93) (j := 1) s rfl rfl (in64.2 (by omega))) fun a s => ?_
   refine asg s rfl rfl fun a s => ?_
   apply wN
   replace s := s.add 160 (rdF REP (cs97 ++ (cellsOfL [.agg #[vT (x101.Pred), vI x106, sl A118 (b_117) c119]])) (b_94 ++ [(EP.mk x101.Pred x106 b_117)])) (s.ft 184 rfl)
   exact ⟨m1, Nat.lt_succ_self _, ⟨(t_93 + 1), (b_94 ++ [(EP.mk x101.Pred x106 b_117)]), (Aq166), (cq166), (cs97 ++ (cellsOfL [.agg #[vT (x101.Pred), vI x106, sl A118 (b_117) c119]])), hg, (s.sb rfl rfl rfl)⟩⟩
  replace hg := br_f hg hc98
  apply wp_exit
  refine p_then ?_
  refine p_then ?_
  refine p_in ?_
  apply pN
  replace s := s.al 158 160 rfl
  replace s := s.pk [(1000, 1000), (2505, 2505), (3312, 3312), (700157, 700159)] (by decide)
  exact ⟨(b_94), (A95), (c96), (cs97), hg, (s.sb rfl rfl rfl)⟩
 clear s a; rintro a w ⟨b_89, A90, c91, cs92, hg, s⟩
 subst hk88
 apply wQ
 apply wR
 refine asg s rfl rfl fun a s => ?_
 apply wN
 obtain ⟨k168, hg, hk168⟩ := jn_some hg
 refine c_post (fun a w => ∃ (b_169 : (List Qeq)) (A170 : Option Addr) (c171 : Nat) (cs172 : List Value), k168 b_169 = some r ∧ St (⟨Tryz.f48.ntmps, M, noB, w0⟩ : Ctx) [(2, vP b2 0), (13, vP b87 0)] [(1000, Ob.box b2 [vI 0, vI 0, .slice (none) (0) (0), .slice (none) (0) (0), .slice (none) (0) (0)] 26), (3312, Ob.box b87 [vI x77, vI x80, sl Au74b1 (r70.2.1) cu74b1, sl A90 (b_89) c91, sl A170 (b_169) c171] 26), (700157, Ob.row (A90) ((b_89).length) (c91) 43 3 (cs92)), (700185, Ob.row (A170) ((b_169).length) (c171) 48 2 (cs172))] [(156, slF Rep.str (Au74b1) ((r70.2.1).length) (cu74b1) (r70.2.1)), (158, rdF REP (cs92) (b_89)), (186, rdF RQeq (cs172) (b_169))] a w) ?_ ?_
 ·apply wp_block
  replace s := s.nilRow 700187 48 2 rfl
  replace s := s.add 188 (rdF RQeq [] []) (RdAll.nil _ _ _)
  refine c_loop (σ := Nat) (fun m3 a w => ∃ (t_173 : Nat) (b_174 : (List Qeq)) (A175 : Option Addr) (c176 : Nat) (cs177 : List Value), r39_Parse_L2 n r41 r70 k168 m3 t_173 b_174 = some r ∧ St (⟨Tryz.f48.ntmps, M, noB, w0⟩ : Ctx) [(2, vP b2 0), (9, vP b47 0), (10, sl Au74a1 (r70.1) cu74a1), (13, vP b87 0), (17, vI (((t_173 : Nat) : Int)))] [(1000, Ob.box b2 [vI 0, vI 0, .slice (none) (0) (0), .slice (none) (0) (0), .slice (none) (0) (0)] 26), (2505, Ob.box b47 [vI (r11.2), vI (r21.2), .slice (none) (0) (0), sl Ab1u35 (r31.2) cb1u35, sl Ab1u45 (r41.2) cb1u45] 26), (3312, Ob.box b87 [vI x77, vI x80, sl Au74b1 (r70.2.1) cu74b1, sl A90 (b_89) c91, sl A175 (b_174) c176] 26), (700157, Ob.row (A90) ((b_89).length) (c91) 43 3 (cs92)), (700187, Ob.row (A175) ((b_174).length) (c176) 48 2 (cs177))] [(130, slF REP (Ab1u35) ((r31.2).length) (cb1u35) (r31.2)), (140, slF RQeq (Ab1u45) ((r41.2).length) (cb1u45) (r41.2)), (155, slF (Rep.num .i64) (Au74a1) ((r70.1).length) (cu74a1) (r70.1)), (156, slF Rep.str (Au74b1) ((r70.2.1).length) (cu74b1) (r70.2.1)), (158, rdF REP (cs92) (b_89)), (188, rdF RQeq (cs177) (b_174))] a w) (fun m3 => m3) n ⟨(0), ([]), (none), (0), ([]), hg, (s.sb rfl rfl rfl)⟩ ?_
  clear s a; rintro m3 a w ⟨t_173, b_174, A175, c176, cs177, hg, s⟩
  rcases m3 with _ | m3
  ·rw [r39_Parse_L2] at hg; cases hg
  rw [r39_Parse_L2] at hg
  apply wQ
  apply wR
  refine mv s rfl rfl fun a s => ?_
  refine qq s rfl (y_boxField (o' := 4) s rfl underlying26 rfl rfl rfl) fun a s => ?_
  refine qq s rfl (y_loadBox1 (kk := 2505) s rfl rfl rfl underlying24 rfl) fun a s => ?_
  refine qq s rfl (y_lenSlice s rfl underlying24) fun a s => ?_
  refine qq s rfl (y_lssN (i := t_173) (j := ((r41.2).length)) s rfl rfl) fun a s => ?_
  apply wN
  refine c_dec s rfl (fun hc178 => ?_) (fun hc178 => ?_)
  ·replace hg := br_t hg hc178
   have hmx179 := SlR.mx (s.ft 140 rfl)
   apply wp_skip
   apply pN
   apply wQ
   apply wp_block
   obtain ⟨x181, hx181, hg⟩ := bind_some hg
   obtain ⟨x184, hx184, hg⟩ := bind_some hg
   obtain ⟨x189, hx189, hg⟩ := bind_some hg
   obtain ⟨hk192, hg⟩ := chk_some hg
   refine d_plan s [(22, 700187), (24, 3312)] [(0, some 0), (1, some 3312), (2, some 0), (3, some 0), (4, some 2505), (5, some 0), (6, some 0), (7, some 0), (8, some 0), (9, some 0), (10, some 0), (11, some 0), (12, some 0), (13, some 2505), (14, some 0), (15, some 0), (16, some 0), (17, some 0), (18, some 0), (19, some 0), (20, some 0), (21, none), (22, none), (23, none), (24, none)] rfl (by kernel_rfl) (by kernel_rfl) rfl ?_; clear s; intro wr hZ s; have hR := s.wd
   refine qt s hR rfl (y_boxField (o' := 4) s rfl underlying26 rfl rfl rfl) fun a s => ?_
   refine qt s hR rfl (y_loadBox1 (kk := 3312) s rfl rfl rfl underlying24 rfl) fun a s => ?_
   refine qt s hR rfl (y_move s rfl) fun a s => ?_
   refine qt s hR rfl (y_boxField (o' := 4) s rfl underlying26 rfl rfl rfl) fun a s => ?_
   refine qt s hR rfl (y_loadBox1 (kk := 2505) s rfl rfl rfl underlying24 rfl) fun a s => ?_
   refine qt s hR rfl (y_move s rfl) fun a s => ?_
   obtain ⟨p195, hep195, hpp195⟩ := SlR.elemX (s.ft 140 rfl) hx181
   refine qt s hR rfl (y_elem (sz := 2) (i := t_173) s rfl rfl underlying24 rfl hep195 rfl (lt_of_get hx181)) fun a s => ?_
   refine qt s hR rfl (y_ptrField (o' := 0) s rfl underlying48 rfl rfl rfl) fun a s => ?_
   obtain ⟨hlq196, hmq196, csq196, hdq196, hcq196⟩ := hpp195
   obtain rfl := RQeq.open hdq196
   refine qt s hR rfl (y_ldp1 s rfl hlq196 hmq196 (hcq196 0 _ rfl) underlying3 rfl) fun a s => ?_
   obtain ⟨p197, hep197, hpp197⟩ := SlR.elemX (s.ft 155 rfl) (ix_some hx184).1
   refine qt s hR rfl (y_elem (sz := 1) (i := ((x181.High).toNat)) s rfl rfl underlying30 rfl hep197 (ix_some hx184).2.1 (lt_of_get (ix_some hx184).1)) fun a s => ?_
   obtain ⟨hlq198, hmq198, csq198, hdq198, hcq198⟩ := hpp197
   obtain rfl := hdq198
   refine qt s hR rfl (y_ldp1 s rfl hlq198 hmq198 (hcq198 0 _ rfl) underlying3 rfl) fun a s => ?_
   refine qt s hR rfl (y_move s rfl) fun a s => ?_
   refine qt s hR rfl (y_boxField (o' := 4) s rfl underlying26 rfl rfl rfl) fun a s => ?_
   refine qt s hR rfl (y_loadBox1 (kk := 2505) s rfl rfl rfl underlying24 rfl) fun a s => ?_
   refine qt s hR rfl (y_move s rfl) fun a s => ?_
   obtain ⟨p199, hep199, hpp199⟩ := SlR.elemX (s.ft 140 rfl) hx181
   refine qt s hR rfl (y_elem (sz := 2) (i := t_173) s rfl rfl underlying24 rfl hep199 rfl (lt_of_get hx181)) fun a s => ?_
   refine qt s hR rfl (y_ptrField (o' := 1) s rfl underlying48 rfl rfl rfl) fun a s => ?_
   obtain ⟨hlq200, hmq200, csq200, hdq200, hcq200⟩ := hpp199
   obtain rfl := RQeq.open hdq200
   refine qt s hR rfl (y_ldp1 s rfl hlq200 hmq200 (hcq200 1 _ rfl) underlying3 rfl) fun a s => ?_
   obtain ⟨p201, hep201, hpp201⟩ := SlR.elemX (s.ft 155 rfl) (ix_some hx189).1
   refine qt s hR rfl (y_elem (sz := 1) (i := ((x181.Low).toNat)) s rfl rfl underlying30 rfl hep201 (ix_some hx189).2.1 (lt_of_get (ix_some hx189).1)) fun a s => ?_
   obtain ⟨hlq202, hmq202, csq202, hdq202, hcq202⟩ := hpp201
   obtain rfl := hdq202
   refine qt s hR rfl (y_ldp1 s rfl hlq202 hmq202 (hcq202 0 _ rfl) underlying3 rfl) fun a s => ?_
   refine qt s hR rfl (y_build (parts := [(0, .tmp 184), (1, .tmp 193)]) (ps := [(0, vI x184), (1, vI x189)]) (cells := #[vI x184, vI x189]) s rfl (by kernel_rfl)) fun a s => ?_
   refine l_take s rfl rfl (l_buildDense (sz := 2) s 4621 rfl rfl rfl underlying24 rfl rfl rfl rfl rfl rfl rfl fun b203 a w hbb203 hK s => ?_)
   have hNb203 := NewA.lit hZ hbb203
   clear hbb203
   replace hZ := Nat.le_trans hZ hK.size; refine ⟨fun g _ h => h.grow hK, ?_⟩; clear hK
   replace s := s.add 191 (rdF RQeq (cellsOfL [.agg #[vI x184, vI x189]]) ([(Qeq.mk x184 x189)])) (RdAll.cons (by exact (RQeq.mk' (x := (Qeq.mk x184 x189)) )) (RdAll.nil _ _ _))
   have hs205 := row_src (s.wd.holds 4621 _ rfl) (RdAll.one (s.ft 191 rfl))
   refine l_take s rfl rfl (l_append (sz := 2) (by_ := 16) (N := (b_174 ++ [(Qeq.mk x184 x189)]).length) (ys := cs177 ++ (cellsOfL [.agg #[vI x184, vI x189]])) s 700187 rfl rfl rfl underlying24 rfl rfl rfl rfl rfl hs205 (by simp) rfl (by have hr := hk192; clear hg; first | omega | (simp only [List.length_append, List.length_cons, List.length_nil] at hr ⊢; omega) | (simp at hr ⊢; omega)) (by have hr := hk192; clear hg; first | omega | (simp only [List.length_append, List.length_cons, List.length_nil] at hr ⊢; omega) | (simp at hr ⊢; omega)) rfl fun Aq204 cq204 a w hA hK s => ?_)
   replace hZ := Nat.le_trans hZ hK.size; refine ⟨fun g hg h => h.obj hR (kk := 700187) rfl hK (by rintro rfl; exact absurd hg (by decide)), ?_⟩
   replace s := s.add 192 (rdF RQeq (cs177 ++ (cellsOfL [.agg #[vI x184, vI x189]])) (b_174 ++ [(Qeq.mk x184 x189)])) (RdAll.append (s.ft 188 rfl) (s.ft 191 rfl))
   refine l_take s rfl rfl (l_quiet s rfl rfl (y_boxField (o' := 4) s rfl underlying26 rfl rfl rfl) fun a s => ?_); refine ⟨fun g _ h => h, ?_⟩
   refine l_take s rfl rfl (l_store (n := 1) (cs' := [vI x77, vI x80, sl Au74b1 (r70.2.1) cu74b1, sl A90 (b_89) c91, sl Aq204 (b_174 ++ [(Qeq.mk x184 x189)]) cq204]) s 3312 rfl rfl rfl rfl rfl rfl rfl rfl ?_); clear s; intro w hK s; replace hZ := Nat.le_trans hZ hK.size
   refine ⟨fun g hg h => h.obj hR (kk := 3312) rfl hK (by rintro rfl; exact absurd hg (by decide)), ?_⟩; clear hK
   clear hR hZ
   refine p_inN ?_
   apply pN
   apply wL
   refine mv s rfl rfl fun a s => ?_
   refine qq s rfl (y_addN (i := t_173) (j := 1) s rfl rfl (in64.2 (by omega))) fun a s => ?_
   refine asg s rfl rfl fun a s => ?_
   apply wN
   replace s := s.al 188 192 rfl
   exact ⟨m3, Nat.lt_succ_self _, ⟨(t_173 + 1), (b_174 ++ [(Qeq.mk x184 x189)]), (Aq204), (cq204), (cs177 ++ (cellsOfL [.agg #[vI x184, vI x189]])), hg, (s.sb rfl rfl rfl)⟩⟩
  replace hg := br_f hg hc178
  apply wp_exit
  refine p_then ?_
  refine p_then ?_
  refine p_in ?_
  apply pN
  replace s := s.al 186 188 rfl
  replace s := s.pk [(1000, 1000), (2505, 2505), (3312, 3312), (700157, 700157), (700185, 700187)] (by decide)
  exact ⟨(b_174), (A175), (c176), (cs177), hg, (s.sb rfl rfl rfl)⟩
 clear s a; rintro a w ⟨b_169, A170, c171, cs172, hg, s⟩
 subst hk168
 apply wQ
 apply wQ
 obtain ⟨r206, hr206, hg⟩ := bind_some hg
 apply wL
 refine qq s rfl (y_loadAll (kk := 3312) s rfl rfl underlying26 rfl rfl) fun a s => ?_
 have hT := s
 replace hT := hT.fz (R := REP) (kk := 700157) [1000, 3312, 700185] 195 rfl rfl (hT.ft 158 rfl) rfl
 replace hT := hT.fz (R := RQeq) (kk := 700185) [1000, 3312] 196 rfl rfl (hT.ft 186 rfl) rfl
 refine l_seq rfl (l_call (cap := []) s rfl func24 rfl (by kernel_rfl) rfl rfl (c_r39_Check n _ _ hT.lt (MRS.mk x77 x80 r70.2.1 b_89 b_169) (Au74b1) (cu74b1) (A90) (c91) (A170) (c171) (hT.ft 156 rfl) (hT.ft 195 rfl) (hT.ft 196 rfl) r206 hr206) fun v209 a w hK hp s => ?_)
 obtain rfl := hp
 refine asg s rfl rfl fun a s => ?_
 apply wN
 apply wR
 refine mv s rfl rfl fun a s => ?_
 refine qq s rfl (y_neq s rfl rfl) fun a s => ?_
 apply wN
 refine c_dec s rfl (fun hc211 => ?_) (fun hc211 => ?_)
 ·replace hg := br_t hg hc211
  apply wR
  refine qq s rfl (y_build (parts := []) (ps := []) (cells := #[vI 0, vI 0, .slice (none) (0) (0), .slice (none) (0) (0), .slice (none) (0) (0)]) s rfl (by kernel_rfl)) fun a s => ?_
  refine mv s rfl rfl fun a s => ?_
  refine l_seq rfl (l_store (n := 5) (cs' := [vI 0, vI 0, .slice (none) (0) (0), .slice (none) (0) (0), .slice (none) (0) (0)]) s 1000 rfl rfl rfl rfl rfl rfl rfl rfl ?_); clear s; intro w hK s; clear hK
  refine asg s rfl rfl fun a s => ?_
  apply wN
  apply wp_ret
  refine p_thenR ?_
  obtain rfl := Option.some.inj hg
  refine fin2 (fn := Tryz.f48) s rfl (r_cell (kk := 1000) (n := 5) (vs := [vI 0, vI 0, .slice (none) (0) (0), .slice (none) (0) (0), .slice (none) (0) (0)]) s rfl rfl underlying26 rfl rfl rfl rfl) (r_tmp s rfl) ?_
  exact ⟨(none), (0), (none), (0), (none), (0), rfl, (SlR.nil_ _ _ _), (SlR.nil_ _ _ _), (SlR.nil_ _ _ _)⟩
 replace hg := br_f hg hc211
 apply wp_skip
 apply pN
 apply wR
 refine qq s rfl (y_loadAll (kk := 3312) s rfl rfl underlying26 rfl rfl) fun a s => ?_
 refine l_seq rfl (l_store (n := 5) (cs' := [vI x77, vI x80, sl Au74b1 (r70.2.1) cu74b1, sl A90 (b_89) c91, sl A170 (b_169) c171]) s 1000 rfl rfl rfl rfl rfl rfl rfl rfl ?_); clear s; intro w hK s; clear hK
 refine asg s rfl rfl fun a s => ?_
 apply wN
 apply wp_ret
 obtain rfl := Option.some.inj hg
 refine fin2 (fn := Tryz.f48) s rfl (r_cell (kk := 1000) (n := 5) (vs := [vI x77, vI x80, sl Au74b1 (r70.2.1) cu74b1, sl A90 (b_89) c91, sl A170 (b_169) c171]) s rfl rfl underlying26 rfl rfl rfl rfl) (r_tmp s rfl) ?_
 exact ⟨(Au74b1), (cu74b1), (A90), (c91), (A170), (c171), rfl, (s.out (k := 156) rfl), (s.rowOut (R := REP) (kk := 700157) rfl rfl (s.ft 158 rfl)), (s.rowOut (R := RQeq) (kk := 700185) rfl rfl (s.ft 186 rfl))⟩
set_option maxHeartbeats 400000 in
theorem c_law41_dog (n : Nat) (M : Bs) (w0 : World) (hM : ∀ b, M b → b < w0.heap.size)  (r : MRS) (hg : law41_dog n = some r) :
    Calls Tryz.prog 26 [].toArray w0 (Ret noB w0 fun v w => ∃ (Aa3 : Option Addr), ∃ (ca3 : Nat), ∃ (Aa4 : Option Addr), ∃ (ca4 : Nat), ∃ (Aa5 : Option Addr), ∃ (ca5 : Nat), v = .agg #[.int .i64 (r.Top), .int .i64 (r.Index), .slice (Aa3) ((r.Vars).length) (ca3), .slice (Aa4) ((r.Rels).length) (ca4), .slice (Aa5) ((r.Cons).length) (ca5)] ∧ (SlR Rep.str M w Aa3 (r.Vars).length ca3 (r.Vars)) ∧ (SlR REP M w Aa4 (r.Rels).length ca4 (r.Rels)) ∧ (SlR RQeq M w Aa5 (r.Cons).length ca5 (r.Cons))) := by
 unfold law41_dog at hg
 refine enter M noB func26 rfl rfl hM ?_
 intro a s
 apply wR
 refine l_seq rfl (l_alloc (zs := [vI 0, vI 0, .slice (none) (0) (0), .slice (none) (0) (0), .slice (none) (0) (0)]) s 1000 rfl rfl rfl rfl fun b2 a w hb hK s => ?_)
 apply wN
 apply wQ
 obtain ⟨r3, hr3, hg⟩ := bind_some hg
 apply wL
 refine l_seq rfl (l_call (cap := []) s rfl func48 rfl (by kernel_rfl) rfl rfl (c_r39_Parse n _ _ s.lt [104, 48, 32, 101, 49, 32, 123, 104, 50, 58, 116, 104, 101, 40, 65, 82, 71, 48, 32, 120, 51, 44, 32, 66, 79, 68, 89, 32, 104, 52, 44, 32, 82, 83, 84, 82, 32, 104, 53, 41, 59, 32, 104, 54, 58, 100, 111, 103, 40, 65, 82, 71, 48, 32, 120, 51, 41, 59, 32, 104, 55, 58, 98, 97, 114, 107, 40, 65, 82, 71, 48, 32, 101, 49, 44, 32, 65, 82, 71, 49, 32, 120, 51, 41, 125, 32, 123, 104, 48, 32, 113, 101, 113, 32, 104, 55, 59, 32, 104, 53, 32, 113, 101, 113, 32, 104, 54, 125] (by first | omega | (rw [List.length_append]; omega) | (simp only [List.length_append]; omega) | (simp only [List.length_append, List.length_take, List.length_drop, List.length_cons, List.length_nil]; omega)) r3 hr3) fun v7 a w hK hp s => ?_)
 obtain ⟨Au8a3, cu8a3, Au8a4, cu8a4, Au8a5, cu8a5, rfl, hu8a3, hu8a4, hu8a5⟩ := hp
 replace s := s.ns 104 hu8a3
 replace s := s.ns 105 hu8a4
 replace s := s.ns 106 hu8a5
 refine mv s rfl rfl fun a s => ?_
 refine qq s rfl (y_extract s rfl rfl) fun a s => ?_
 refine qq s rfl (y_extract s rfl rfl) fun a s => ?_
 refine l_seq rfl (l_alloc (zs := [vI 0, vI 0, .slice (none) (0) (0), .slice (none) (0) (0), .slice (none) (0) (0)]) s 1104 rfl rfl rfl rfl fun b9 a w hb hK s => ?_)
 refine l_seq rfl (l_store (n := 5) (cs' := [vI (r3.1.Top), vI (r3.1.Index), sl Au8a3 (r3.1.Vars) cu8a3, sl Au8a4 (r3.1.Rels) cu8a4, sl Au8a5 (r3.1.Cons) cu8a5]) s 1104 rfl rfl rfl rfl rfl rfl rfl rfl ?_); clear s; intro w hK s; clear hK
 refine asg s rfl rfl fun a s => ?_
 apply wN
 apply wR
 refine qq s rfl (y_loadAll (kk := 1104) s rfl rfl underlying26 rfl rfl) fun a s => ?_
 refine l_seq rfl (l_store (n := 5) (cs' := [vI (r3.1.Top), vI (r3.1.Index), sl Au8a3 (r3.1.Vars) cu8a3, sl Au8a4 (r3.1.Rels) cu8a4, sl Au8a5 (r3.1.Cons) cu8a5]) s 1000 rfl rfl rfl rfl rfl rfl rfl rfl ?_); clear s; intro w hK s; clear hK
 apply wN
 apply wp_ret
 obtain rfl := Option.some.inj hg
 refine fin1 (fn := Tryz.f26) s rfl (r_cell (kk := 1000) (n := 5) (vs := [vI (r3.1.Top), vI (r3.1.Index), sl Au8a3 (r3.1.Vars) cu8a3, sl Au8a4 (r3.1.Rels) cu8a4, sl Au8a5 (r3.1.Cons) cu8a5]) s rfl rfl underlying26 rfl rfl rfl rfl) ?_
 exact ⟨(Au8a3), (cu8a3), (Au8a4), (cu8a4), (Au8a5), (cu8a5), rfl, (s.out (k := 104) rfl), (s.out (k := 105) rfl), (s.out (k := 106) rfl)⟩
end Go.Proofs.YtegboboemepifaaGreatDoor

