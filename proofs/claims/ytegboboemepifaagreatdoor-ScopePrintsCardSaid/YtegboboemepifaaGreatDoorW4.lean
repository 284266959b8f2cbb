/- Chapter 41: the walks, part 4 -/
import Derived.Test.YtegboboemepifaaGreatDoorW3
namespace Go.Proofs.YtegboboemepifaaGreatDoor
open Go.Gl Go.RowKit Tryz
set_option linter.unusedVariables false
set_option linter.unusedSimpArgs false
set_option maxRecDepth 4000

set_option maxHeartbeats 400000 in
theorem c_law41_exampleHolds (n : Nat) (M : Bs) (w0 : World) (hM : ∀ b, M b → b < w0.heap.size) (hTab : (tabF Tryz.prog).p M w0) (r : Bool) (hg : law41_exampleHolds n = some r) :
    Calls Tryz.prog 10 [].toArray w0 (Ret noB w0 fun v w => v = .bool (r)) := by
 unfold law41_exampleHolds at hg
 refine enter M noB func10 rfl rfl hM ?_
 intro a s
 replace s := s.add 7 (tabF Tryz.prog) (by exact Fact.change _ enterM hTab)
 apply wR
 refine asg s rfl rfl fun a s => ?_
 apply wN
 apply wQ
 obtain ⟨r1, hr1, hg⟩ := bind_some hg
 apply wL
 refine l_seq rfl (l_call (cap := []) s rfl func26 rfl (by kernel_rfl) rfl rfl (c_law41_dog n _ _ s.lt  r1 hr1) fun v5 a w hK hp s => ?_)
 obtain ⟨Au6a3, cu6a3, Au6a4, cu6a4, Au6a5, cu6a5, rfl, hu6a3, hu6a4, hu6a5⟩ := hp
 replace s := s.ns 104 hu6a3
 replace s := s.ns 105 hu6a4
 replace s := s.ns 106 hu6a5
 refine l_seq rfl (l_alloc (zs := [vI 0, vI 0, .slice (none) (0) (0), .slice (none) (0) (0), .slice (none) (0) (0)]) s 1101 rfl rfl rfl rfl fun b7 a w hb hK s => ?_)
 refine l_seq rfl (l_store (n := 5) (cs' := [vI (r1.Top), vI (r1.Index), sl Au6a3 (r1.Vars) cu6a3, sl Au6a4 (r1.Rels) cu6a4, sl Au6a5 (r1.Cons) cu6a5]) s 1101 rfl rfl rfl rfl rfl rfl rfl rfl ?_); clear s; intro w hK s; clear hK
 apply wN
 apply wQ
 obtain ⟨r9, hr9, hg⟩ := bind_some hg
 apply wL
 refine qq s rfl (y_loadAll (kk := 1101) s rfl rfl underlying26 rfl rfl) fun a s => ?_
 refine l_seq rfl (l_buildDense (sz := 1) s 1201 rfl rfl rfl underlying30 rfl rfl rfl rfl rfl rfl rfl fun b12 a w hbb12 hK s => ?_)
 clear hbb12
 replace s := s.add 109 (rdF (Rep.num .i64) (cellsOfL [vI 2, vI 7, vI 6]) ([2, 7, 6])) (RdAll.cons (by exact rfl) (RdAll.cons (by exact rfl) (RdAll.cons (by exact rfl) (RdAll.nil _ _ _))))
 have hT := s
 replace hT := hT.fz (R := (Rep.num .i64)) (kk := 1201) [1101] 110 rfl rfl (hT.ft 109 rfl) rfl
 refine l_seq rfl (l_call (cap := []) s rfl func21 rfl (by kernel_rfl) rfl rfl (c_scope_Print n _ _ hT.lt r1 (Au6a3) (cu6a3) (Au6a4) (cu6a4) (Au6a5) (cu6a5) (hT.ft 104 rfl) (hT.ft 105 rfl) (hT.ft 106 rfl) [2, 7, 6] (some ⟨b12, 0, none⟩) (3) (hT.ft 110 rfl) (hT.ft 7 rfl) r9 hr9) fun v13 a w hK hp s => ?_)
 obtain ⟨rfl, lu14a1⟩ := hp
 refine mv s rfl rfl fun a s => ?_
 refine qq s rfl (y_extract s rfl rfl) fun a s => ?_
 refine qq s rfl (y_extract s rfl rfl) fun a s => ?_
 refine asg s rfl rfl fun a s => ?_
 refine asg s rfl rfl fun a s => ?_
 apply wN
 apply wQ
 obtain ⟨r15, hr15, hg⟩ := bind_some hg
 obtain ⟨r19, hr19, hg⟩ := bind_some hg
 rcases Bool.eq_false_or_eq_true (r19) with hs22 | hs22
 ·replace hg := br_t hg hs22
  obtain ⟨r23, hr23, hg⟩ := bind_some hg
  obtain ⟨r27, hr27, hg⟩ := bind_some hg
  rcases Bool.eq_false_or_eq_true (r27) with hs30 | hs30
  ·replace hg := br_t hg hs30
   obtain ⟨r32, hr32, hg⟩ := bind_some hg
   obtain ⟨r36, hr36, hg⟩ := bind_some hg
   rcases Bool.eq_false_or_eq_true (r36) with hs39 | hs39
   ·replace hg := br_t hg hs39
    obtain ⟨r41, hr41, hg⟩ := bind_some hg
    rcases Decidable.em (r41 = 0) with hs44 | hs44
    ·have hs44e := decide_eq_true hs44
     replace hg := br_t hg hs44
     obtain ⟨r46, hr46, hg⟩ := bind_some hg
     rcases Decidable.em (r46 = 13) with hs49 | hs49
     ·have hs49e := decide_eq_true hs49
      replace hg := br_t hg hs49
      obtain ⟨r50, hr50, hg⟩ := bind_some hg
      rcases Decidable.em (r50 = 1) with hs53 | hs53
      ·have hs53e := decide_eq_true hs53
       replace hg := br_t hg hs53
       rcases Decidable.em (r9.2 = 0) with hs54 | hs54
       ·have hs54e := decide_eq_true hs54
        replace hg := br_t hg hs54
        apply wL
        refine qq s rfl (y_loadAll (kk := 1101) s rfl rfl underlying26 rfl rfl) fun a s => ?_
        refine l_seq rfl (l_call (cap := []) s rfl func12 rfl (by kernel_rfl) rfl rfl (c_scope_Holes n _ _ s.lt r1 (Au6a3) (cu6a3) (Au6a4) (cu6a4) (Au6a5) (cu6a5) (s.ft 104 rfl) (s.ft 105 rfl) (s.ft 106 rfl) r15 hr15) fun v55 a w hK hp s => ?_)
        obtain ⟨Au56a1, cu56a1, rfl, hu56a1⟩ := hp
        replace s := s.ns 126 hu56a1
        refine l_seq rfl (l_buildDense (sz := 1) s 1302 rfl rfl rfl underlying30 rfl rfl rfl rfl rfl rfl rfl fun b57 a w hbb57 hK s => ?_)
        clear hbb57
        replace s := s.add 127 (rdF (Rep.num .i64) (cellsOfL [vI 0, vI 4, vI 5]) ([0, 4, 5])) (RdAll.cons (by exact rfl) (RdAll.cons (by exact rfl) (RdAll.cons (by exact rfl) (RdAll.nil _ _ _))))
        have hT := s
        replace hT := hT.fz (R := (Rep.num .i64)) (kk := 1302) [1101, 1201] 128 rfl rfl (hT.ft 127 rfl) rfl
        refine l_seq rfl (l_call (cap := []) s rfl func11 rfl (by kernel_rfl) rfl rfl (c_r41_Same n _ _ hT.lt r15 (Au56a1) (cu56a1) (hT.ft 126 rfl) [0, 4, 5] (some ⟨b57, 0, none⟩) (3) (hT.ft 128 rfl) r19 hr19) fun v58 a w hK hp s => ?_)
        obtain rfl := hp.trans (congrArg Value.bool hs22)
        refine mv s rfl rfl fun a s => ?_
        refine gy s rfl (y_loadAll (kk := 1101) s rfl rfl underlying26 rfl rfl) fun a s => ?_
        refine gl s rfl (l_call (cap := []) s rfl func14 rfl (by kernel_rfl) rfl rfl (c_scope_Labels n _ _ s.lt r1 (Au6a3) (cu6a3) (Au6a4) (cu6a4) (Au6a5) (cu6a5) (s.ft 104 rfl) (s.ft 105 rfl) (s.ft 106 rfl) r23 hr23) fun v60 a w hK hp s => ?_)
        obtain ⟨Au61a1, cu61a1, rfl, hu61a1⟩ := hp
        replace s := s.ns 129 hu61a1
        refine gl s rfl (l_buildDense (sz := 1) s 1307 rfl rfl rfl underlying30 rfl rfl rfl rfl rfl rfl rfl fun b62 a w hbb62 hK s => ?_)
        clear hbb62
        replace s := s.add 130 (rdF (Rep.num .i64) (cellsOfL [vI 2, vI 6, vI 7]) ([2, 6, 7])) (RdAll.cons (by exact rfl) (RdAll.cons (by exact rfl) (RdAll.cons (by exact rfl) (RdAll.nil _ _ _))))
        have hT := s
        replace hT := hT.fz (R := (Rep.num .i64)) (kk := 1307) [1101, 1201, 1302] 131 rfl rfl (hT.ft 130 rfl) rfl
        refine gl s rfl (l_call (cap := []) s rfl func11 rfl (by kernel_rfl) rfl rfl (c_r41_Same n _ _ hT.lt r23 (Au61a1) (cu61a1) (hT.ft 129 rfl) [2, 6, 7] (some ⟨b62, 0, none⟩) (3) (hT.ft 131 rfl) r27 hr27) fun v63 a w hK hp s => ?_)
        obtain rfl := hp.trans (congrArg Value.bool hs30)
        refine qq s rfl (y_pick_t s rfl rfl) fun a s => ?_
        refine mv s rfl rfl fun a s => ?_
        refine gy s rfl (y_loadAll (kk := 1101) s rfl rfl underlying26 rfl rfl) fun a s => ?_
        refine gl s rfl (l_buildDense (sz := 1) s 1312 rfl rfl rfl underlying30 rfl rfl rfl rfl rfl rfl rfl fun b65 a w hbb65 hK s => ?_)
        clear hbb65
        replace s := s.add 132 (rdF (Rep.num .i64) (cellsOfL [vI 2, vI 7, vI 6]) ([2, 7, 6])) (RdAll.cons (by exact rfl) (RdAll.cons (by exact rfl) (RdAll.cons (by exact rfl) (RdAll.nil _ _ _))))
        replace s := s.freeze (R := (Rep.num .i64)) (kk := 1312) (L' := [(1101, Ob.box b7 [vI (r1.Top), vI (r1.Index), sl Au6a3 (r1.Vars) cu6a3, sl Au6a4 (r1.Rels) cu6a4, sl Au6a5 (r1.Cons) cu6a5] 26), (1201, Ob.row (some ⟨b12, 0, none⟩) (3) (3) 3 1 (cellsOfL [vI 2, vI 7, vI 6])), (1302, Ob.row (some ⟨b57, 0, none⟩) (3) (3) 3 1 (cellsOfL [vI 0, vI 4, vI 5])), (1307, Ob.row (some ⟨b62, 0, none⟩) (3) (3) 3 1 (cellsOfL [vI 2, vI 6, vI 7]))]) 133 rfl rfl (s.ft 132 rfl) ⟨rfl, rfl, rfl, rfl, trivial⟩ rfl
        refine gl s rfl (l_call (cap := []) s rfl func17 rfl (by kernel_rfl) rfl rfl (c_scope_Below n _ _ s.lt r1 (Au6a3) (cu6a3) (Au6a4) (cu6a4) (Au6a5) (cu6a5) (s.ft 104 rfl) (s.ft 105 rfl) (s.ft 106 rfl) [2, 7, 6] (some ⟨b65, 0, none⟩) (3) (s.ft 133 rfl) 2 r32 hr32) fun v66 a w hK hp s => ?_)
        obtain ⟨Au67a1, cu67a1, rfl, hu67a1⟩ := hp
        replace s := s.ns 134 hu67a1
        refine gl s rfl (l_buildDense (sz := 1) s 1314 rfl rfl rfl underlying30 rfl rfl rfl rfl rfl rfl rfl fun b68 a w hbb68 hK s => ?_)
        clear hbb68
        replace s := s.add 135 (rdF (Rep.num .i64) (cellsOfL [vI 2, vI 6, vI 7]) ([2, 6, 7])) (RdAll.cons (by exact rfl) (RdAll.cons (by exact rfl) (RdAll.cons (by exact rfl) (RdAll.nil _ _ _))))
        have hT := s
        replace hT := hT.fz (R := (Rep.num .i64)) (kk := 1314) [1101, 1201, 1302, 1307] 136 rfl rfl (hT.ft 135 rfl) rfl
        refine gl s rfl (l_call (cap := []) s rfl func11 rfl (by kernel_rfl) rfl rfl (c_r41_Same n _ _ hT.lt r32 (Au67a1) (cu67a1) (hT.ft 134 rfl) [2, 6, 7] (some ⟨b68, 0, none⟩) (3) (hT.ft 136 rfl) r36 hr36) fun v69 a w hK hp s => ?_)
        obtain rfl := hp.trans (congrArg Value.bool hs39)
        refine qq s rfl (y_pick_t s rfl rfl) fun a s => ?_
        refine mv s rfl rfl fun a s => ?_
        refine gy s rfl (y_loadAll (kk := 1101) s rfl rfl underlying26 rfl rfl) fun a s => ?_
        refine gl s rfl (l_buildDense (sz := 1) s 1319 rfl rfl rfl underlying30 rfl rfl rfl rfl rfl rfl rfl fun b71 a w hbb71 hK s => ?_)
        clear hbb71
        replace s := s.add 137 (rdF (Rep.num .i64) (cellsOfL [vI 2, vI 7, vI 6]) ([2, 7, 6])) (RdAll.cons (by exact rfl) (RdAll.cons (by exact rfl) (RdAll.cons (by exact rfl) (RdAll.nil _ _ _))))
        have hT := s
        replace hT := hT.fz (R := (Rep.num .i64)) (kk := 1319) [1101, 1201, 1302, 1307, 1314] 138 rfl rfl (hT.ft 137 rfl) rfl
        refine gl s rfl (l_call (cap := []) s rfl func19 rfl (by kernel_rfl) rfl rfl (c_scope_Valid n _ _ hT.lt r1 (Au6a3) (cu6a3) (Au6a4) (cu6a4) (Au6a5) (cu6a5) (hT.ft 104 rfl) (hT.ft 105 rfl) (hT.ft 106 rfl) [2, 7, 6] (some ⟨b71, 0, none⟩) (3) (hT.ft 138 rfl) r41 hr41) fun v72 a w hK hp s => ?_)
        obtain rfl := hp
        refine gy s rfl (yl_b (y_eql s rfl rfl) hs44e) fun a s => ?_
        refine qq s rfl (y_pick_t s rfl rfl) fun a s => ?_
        refine mv s rfl rfl fun a s => ?_
        refine gy s rfl (y_loadAll (kk := 1101) s rfl rfl underlying26 rfl rfl) fun a s => ?_
        refine gl s rfl (l_buildDense (sz := 1) s 1325 rfl rfl rfl underlying30 rfl rfl rfl rfl rfl rfl rfl fun b74 a w hbb74 hK s => ?_)
        clear hbb74
        replace s := s.add 139 (rdF (Rep.num .i64) (cellsOfL [vI 7, vI 2, vI 6]) ([7, 2, 6])) (RdAll.cons (by exact rfl) (RdAll.cons (by exact rfl) (RdAll.cons (by exact rfl) (RdAll.nil _ _ _))))
        have hT := s
        replace hT := hT.fz (R := (Rep.num .i64)) (kk := 1325) [1101, 1201, 1302, 1307, 1314, 1319] 140 rfl rfl (hT.ft 139 rfl) rfl
        refine gl s rfl (l_call (cap := []) s rfl func19 rfl (by kernel_rfl) rfl rfl (c_scope_Valid n _ _ hT.lt r1 (Au6a3) (cu6a3) (Au6a4) (cu6a4) (Au6a5) (cu6a5) (hT.ft 104 rfl) (hT.ft 105 rfl) (hT.ft 106 rfl) [7, 2, 6] (some ⟨b74, 0, none⟩) (3) (hT.ft 140 rfl) r46 hr46) fun v75 a w hK hp s => ?_)
        obtain rfl := hp
        refine gy s rfl (yl_b (y_eql s rfl rfl) hs49e) fun a s => ?_
        refine qq s rfl (y_pick_t s rfl rfl) fun a s => ?_
        refine mv s rfl rfl fun a s => ?_
        refine gy s rfl (y_loadAll (kk := 1101) s rfl rfl underlying26 rfl rfl) fun a s => ?_
        refine gl s rfl (l_call (cap := []) s rfl func19 rfl (by kernel_rfl) rfl rfl (c_scope_Valid n _ _ s.lt r1 (Au6a3) (cu6a3) (Au6a4) (cu6a4) (Au6a5) (cu6a5) (s.ft 104 rfl) (s.ft 105 rfl) (s.ft 106 rfl) [] (none) (0) (SlR.nil_ _ _ _) r50 hr50) fun v77 a w hK hp s => ?_)
        obtain rfl := hp
        refine gy s rfl (yl_b (y_eql s rfl rfl) hs53e) fun a s => ?_
        refine qq s rfl (y_pick_t s rfl rfl) fun a s => ?_
        refine mv s rfl rfl fun a s => ?_
        refine gm s rfl rfl fun a s => ?_
        refine gy s rfl (yl_b (y_eql s rfl rfl) hs54e) fun a s => ?_
        refine qq s rfl (y_pick_t s rfl rfl) fun a s => ?_
        refine mv s rfl rfl fun a s => ?_
        refine gm s rfl rfl fun a s => ?_
        refine gy s rfl (y_seq s rfl rfl) fun a s => ?_
        refine qq s rfl (y_pick_t s rfl rfl) fun a s => ?_
        refine asg s rfl rfl fun a s => ?_
        apply wN
        apply wp_ret
        obtain rfl := Option.some.inj hg
        refine fin1 (fn := Tryz.f10) s rfl (r_tmp s rfl) ?_
        exact rfl
       have hs54e := decide_eq_false hs54
       replace hg := br_f hg hs54
       apply wL
       refine qq s rfl (y_loadAll (kk := 1101) s rfl rfl underlying26 rfl rfl) fun a s => ?_
       refine l_seq rfl (l_call (cap := []) s rfl func12 rfl (by kernel_rfl) rfl rfl (c_scope_Holes n _ _ s.lt r1 (Au6a3) (cu6a3) (Au6a4) (cu6a4) (Au6a5) (cu6a5) (s.ft 104 rfl) (s.ft 105 rfl) (s.ft 106 rfl) r15 hr15) fun v79 a w hK hp s => ?_)
       obtain ⟨Au80a1, cu80a1, rfl, hu80a1⟩ := hp
       replace s := s.ns 141 hu80a1
       refine l_seq rfl (l_buildDense (sz := 1) s 1302 rfl rfl rfl underlying30 rfl rfl rfl rfl rfl rfl rfl fun b81 a w hbb81 hK s => ?_)
       clear hbb81
       replace s := s.add 142 (rdF (Rep.num .i64) (cellsOfL [vI 0, vI 4, vI 5]) ([0, 4, 5])) (RdAll.cons (by exact rfl) (RdAll.cons (by exact rfl) (RdAll.cons (by exact rfl) (RdAll.nil _ _ _))))
       have hT := s
       replace hT := hT.fz (R := (Rep.num .i64)) (kk := 1302) [1101, 1201] 143 rfl rfl (hT.ft 142 rfl) rfl
       refine l_seq rfl (l_call (cap := []) s rfl func11 rfl (by kernel_rfl) rfl rfl (c_r41_Same n _ _ hT.lt r15 (Au80a1) (cu80a1) (hT.ft 141 rfl) [0, 4, 5] (some ⟨b81, 0, none⟩) (3) (hT.ft 143 rfl) r19 hr19) fun v82 a w hK hp s => ?_)
       obtain rfl := hp.trans (congrArg Value.bool hs22)
       refine mv s rfl rfl fun a s => ?_
       refine gy s rfl (y_loadAll (kk := 1101) s rfl rfl underlying26 rfl rfl) fun a s => ?_
       refine gl s rfl (l_call (cap := []) s rfl func14 rfl (by kernel_rfl) rfl rfl (c_scope_Labels n _ _ s.lt r1 (Au6a3) (cu6a3) (Au6a4) (cu6a4) (Au6a5) (cu6a5) (s.ft 104 rfl) (s.ft 105 rfl) (s.ft 106 rfl) r23 hr23) fun v84 a w hK hp s => ?_)
       obtain ⟨Au85a1, cu85a1, rfl, hu85a1⟩ := hp
       replace s := s.ns 144 hu85a1
       refine gl s rfl (l_buildDense (sz := 1) s 1307 rfl rfl rfl underlying30 rfl rfl rfl rfl rfl rfl rfl fun b86 a w hbb86 hK s => ?_)
       clear hbb86
       replace s := s.add 145 (rdF (Rep.num .i64) (cellsOfL [vI 2, vI 6, vI 7]) ([2, 6, 7])) (RdAll.cons (by exact rfl) (RdAll.cons (by exact rfl) (RdAll.cons (by exact rfl) (RdAll.nil _ _ _))))
       have hT := s
       replace hT := hT.fz (R := (Rep.num .i64)) (kk := 1307) [1101, 1201, 1302] 146 rfl rfl (hT.ft 145 rfl) rfl
       refine gl s rfl (l_call (cap := []) s rfl func11 rfl (by kernel_rfl) rfl rfl (c_r41_Same n _ _ hT.lt r23 (Au85a1) (cu85a1) (hT.ft 144 rfl) [2, 6, 7] (some ⟨b86, 0, none⟩) (3) (hT.ft 146 rfl) r27 hr27) fun v87 a w hK hp s => ?_)
       obtain rfl := hp.trans (congrArg Value.bool hs30)
       refine qq s rfl (y_pick_t s rfl rfl) fun a s => ?_
       refine mv s rfl rfl fun a s => ?_
       refine gy s rfl (y_loadAll (kk := 1101) s rfl rfl underlying26 rfl rfl) fun a s => ?_
       refine gl s rfl (l_buildDense (sz := 1) s 1312 rfl rfl rfl underlying30 rfl rfl rfl rfl rfl rfl rfl fun b89 a w hbb89 hK s => ?_)
       clear hbb89
       replace s := s.add 147 (rdF (Rep.num .i64) (cellsOfL [vI 2, vI 7, vI 6]) ([2, 7, 6])) (RdAll.cons (by exact rfl) (RdAll.cons (by exact rfl) (RdAll.cons (by exact rfl) (RdAll.nil _ _ _))))
       replace s := s.freeze (R := (Rep.num .i64)) (kk := 1312) (L' := [(1101, Ob.box b7 [vI (r1.Top), vI (r1.Index), sl Au6a3 (r1.Vars) cu6a3, sl Au6a4 (r1.Rels) cu6a4, sl Au6a5 (r1.Cons) cu6a5] 26), (1201, Ob.row (some ⟨b12, 0, none⟩) (3) (3) 3 1 (cellsOfL [vI 2, vI 7, vI 6])), (1302, Ob.row (some ⟨b81, 0, none⟩) (3) (3) 3 1 (cellsOfL [vI 0, vI 4, vI 5])), (1307, Ob.row (some ⟨b86, 0, none⟩) (3) (3) 3 1 (cellsOfL [vI 2, vI 6, vI 7]))]) 148 rfl rfl (s.ft 147 rfl) ⟨rfl, rfl, rfl, rfl, trivial⟩ rfl
       refine gl s rfl (l_call (cap := []) s rfl func17 rfl (by kernel_rfl) rfl rfl (c_scope_Below n _ _ s.lt r1 (Au6a3) (cu6a3) (Au6a4) (cu6a4) (Au6a5) (cu6a5) (s.ft 104 rfl) (s.ft 105 rfl) (s.ft 106 rfl) [2, 7, 6] (some ⟨b89, 0, none⟩) (3) (s.ft 148 rfl) 2 r32 hr32) fun v90 a w hK hp s => ?_)
       obtain ⟨Au91a1, cu91a1, rfl, hu91a1⟩ := hp
       replace s := s.ns 149 hu91a1
       refine gl s rfl (l_buildDense (sz := 1) s 1314 rfl rfl rfl underlying30 rfl rfl rfl rfl rfl rfl rfl fun b92 a w hbb92 hK s => ?_)
       clear hbb92
       replace s := s.add 150 (rdF (Rep.num .i64) (cellsOfL [vI 2, vI 6, vI 7]) ([2, 6, 7])) (RdAll.cons (by exact rfl) (RdAll.cons (by exact rfl) (RdAll.cons (by exact rfl) (RdAll.nil _ _ _))))
       have hT := s
       replace hT := hT.fz (R := (Rep.num .i64)) (kk := 1314) [1101, 1201, 1302, 1307] 151 rfl rfl (hT.ft 150 rfl) rfl
       refine gl s rfl (l_call (cap := []) s rfl func11 rfl (by kernel_rfl) rfl rfl (c_r41_Same n _ _ hT.lt r32 (Au91a1) (cu91a1) (hT.ft 149 rfl) [2, 6, 7] (some ⟨b92, 0, none⟩) (3) (hT.ft 151 rfl) r36 hr36) fun v93 a w hK hp s => ?_)
       obtain rfl := hp.trans (congrArg Value.bool hs39)
       refine qq s rfl (y_pick_t s rfl rfl) fun a s => ?_
       refine mv s rfl rfl fun a s => ?_
       refine gy s rfl (y_loadAll (kk := 1101) s rfl rfl underlying26 rfl rfl) fun a s => ?_
       refine gl s rfl (l_buildDense (sz := 1) s 1319 rfl rfl rfl underlying30 rfl rfl rfl rfl rfl rfl rfl fun b95 a w hbb95 hK s => ?_)
       clear hbb95
       replace s := s.add 152 (rdF (Rep.num .i64) (cellsOfL [vI 2, vI 7, vI 6]) ([2, 7, 6])) (RdAll.cons (by exact rfl) (RdAll.cons (by exact rfl) (RdAll.cons (by exact rfl) (RdAll.nil _ _ _))))
       have hT := s
       replace hT := hT.fz (R := (Rep.num .i64)) (kk := 1319) [1101, 1201, 1302, 1307, 1314] 153 rfl rfl (hT.ft 152 rfl) rfl
       refine gl s rfl (l_call (cap := []) s rfl func19 rfl (by kernel_rfl) rfl rfl (c_scope_Valid n _ _ hT.lt r1 (Au6a3) (cu6a3) (Au6a4) (cu6a4) (Au6a5) (cu6a5) (hT.ft 104 rfl) (hT.ft 105 rfl) (hT.ft 106 rfl) [2, 7, 6] (some ⟨b95, 0, none⟩) (3) (hT.ft 153 rfl) r41 hr41) fun v96 a w hK hp s => ?_)
       obtain rfl := hp
       refine gy s rfl (yl_b (y_eql s rfl rfl) hs44e) fun a s => ?_
       refine qq s rfl (y_pick_t s rfl rfl) fun a s => ?_
       refine mv s rfl rfl fun a s => ?_
       refine gy s rfl (y_loadAll (kk := 1101) s rfl rfl underlying26 rfl rfl) fun a s => ?_
       refine gl s rfl (l_buildDense (sz := 1) s 1325 rfl rfl rfl underlying30 rfl rfl rfl rfl rfl rfl rfl fun b98 a w hbb98 hK s => ?_)
       clear hbb98
       replace s := s.add 154 (rdF (Rep.num .i64) (cellsOfL [vI 7, vI 2, vI 6]) ([7, 2, 6])) (RdAll.cons (by exact rfl) (RdAll.cons (by exact rfl) (RdAll.cons (by exact rfl) (RdAll.nil _ _ _))))
       have hT := s
       replace hT := hT.fz (R := (Rep.num .i64)) (kk := 1325) [1101, 1201, 1302, 1307, 1314, 1319] 155 rfl rfl (hT.ft 154 rfl) rfl
       refine gl s rfl (l_call (cap := []) s rfl func19 rfl (by kernel_rfl) rfl rfl (c_scope_Valid n _ _ hT.lt r1 (Au6a3) (cu6a3) (Au6a4) (cu6a4) (Au6a5) (cu6a5) (hT.ft 104 rfl) (hT.ft 105 rfl) (hT.ft 106 rfl) [7, 2, 6] (some ⟨b98, 0, none⟩) (3) (hT.ft 155 rfl) r46 hr46) fun v99 a w hK hp s => ?_)
       obtain rfl := hp
       refine gy s rfl (yl_b (y_eql s rfl rfl) hs49e) fun a s => ?_
       refine qq s rfl (y_pick_t s rfl rfl) fun a s => ?_
       refine mv s rfl rfl fun a s => ?_
       refine gy s rfl (y_loadAll (kk := 1101) s rfl rfl underlying26 rfl rfl) fun a s => ?_
       refine gl s rfl (l_call (cap := []) s rfl func19 rfl (by kernel_rfl) rfl rfl (c_scope_Valid n _ _ s.lt r1 (Au6a3) (cu6a3) (Au6a4) (cu6a4) (Au6a5) (cu6a5) (s.ft 104 rfl) (s.ft 105 rfl) (s.ft 106 rfl) [] (none) (0) (SlR.nil_ _ _ _) r50 hr50) fun v101 a w hK hp s => ?_)
       obtain rfl := hp
       refine gy s rfl (yl_b (y_eql s rfl rfl) hs53e) fun a s => ?_
       refine qq s rfl (y_pick_t s rfl rfl) fun a s => ?_
       refine mv s rfl rfl fun a s => ?_
       refine gm s rfl rfl fun a s => ?_
       refine gy s rfl (yl_b (y_eql s rfl rfl) hs54e) fun a s => ?_
       refine qq s rfl (y_pick_t s rfl rfl) fun a s => ?_
       refine mv s rfl rfl fun a s => ?_
       refine gn s rfl fun a s => ?_
       refine gn s rfl fun a s => ?_
       refine qq s rfl (y_pick_f s rfl rfl) fun a s => ?_
       refine asg s rfl rfl fun a s => ?_
       apply wN
       apply wp_ret
       obtain rfl := Option.some.inj hg
       refine fin1 (fn := Tryz.f10) s rfl (r_tmp s rfl) ?_
       exact rfl
      have hs53e := decide_eq_false hs53
      replace hg := br_f hg hs53
      apply wL
      refine qq s rfl (y_loadAll (kk := 1101) s rfl rfl underlying26 rfl rfl) fun a s => ?_
      refine l_seq rfl (l_call (cap := []) s rfl func12 rfl (by kernel_rfl) rfl rfl (c_scope_Holes n _ _ s.lt r1 (Au6a3) (cu6a3) (Au6a4) (cu6a4) (Au6a5) (cu6a5) (s.ft 104 rfl) (s.ft 105 rfl) (s.ft 106 rfl) r15 hr15) fun v103 a w hK hp s => ?_)
      obtain ⟨Au104a1, cu104a1, rfl, hu104a1⟩ := hp
      replace s := s.ns 156 hu104a1
      refine l_seq rfl (l_buildDense (sz := 1) s 1302 rfl rfl rfl underlying30 rfl rfl rfl rfl rfl rfl rfl fun b105 a w hbb105 hK s => ?_)
      clear hbb105
      replace s := s.add 157 (rdF (Rep.num .i64) (cellsOfL [vI 0, vI 4, vI 5]) ([0, 4, 5])) (RdAll.cons (by exact rfl) (RdAll.cons (by exact rfl) (RdAll.cons (by exact rfl) (RdAll.nil _ _ _))))
      have hT := s
      replace hT := hT.fz (R := (Rep.num .i64)) (kk := 1302) [1101, 1201] 158 rfl rfl (hT.ft 157 rfl) rfl
      refine l_seq rfl (l_call (cap := []) s rfl func11 rfl (by kernel_rfl) rfl rfl (c_r41_Same n _ _ hT.lt r15 (Au104a1) (cu104a1) (hT.ft 156 rfl) [0, 4, 5] (some ⟨b105, 0, none⟩) (3) (hT.ft 158 rfl) r19 hr19) fun v106 a w hK hp s => ?_)
      obtain rfl := hp.trans (congrArg Value.bool hs22)
      refine mv s rfl rfl fun a s => ?_
      refine gy s rfl (y_loadAll (kk := 1101) s rfl rfl underlying26 rfl rfl) fun a s => ?_
      refine gl s rfl (l_call (cap := []) s rfl func14 rfl (by kernel_rfl) rfl rfl (c_scope_Labels n _ _ s.lt r1 (Au6a3) (cu6a3) (Au6a4) (cu6a4) (Au6a5) (cu6a5) (s.ft 104 rfl) (s.ft 105 rfl) (s.ft 106 rfl) r23 hr23) fun v108 a w hK hp s => ?_)
      obtain ⟨Au109a1, cu109a1, rfl, hu109a1⟩ := hp
      replace s := s.ns 159 hu109a1
      refine gl s rfl (l_buildDense (sz := 1) s 1307 rfl rfl rfl underlying30 rfl rfl rfl rfl rfl rfl rfl fun b110 a w hbb110 hK s => ?_)
      clear hbb110
      replace s := s.add 160 (rdF (Rep.num .i64) (cellsOfL [vI 2, vI 6, vI 7]) ([2, 6, 7])) (RdAll.cons (by exact rfl) (RdAll.cons (by exact rfl) (RdAll.cons (by exact rfl) (RdAll.nil _ _ _))))
      have hT := s
      replace hT := hT.fz (R := (Rep.num .i64)) (kk := 1307) [1101, 1201, 1302] 161 rfl rfl (hT.ft 160 rfl) rfl
      refine gl s rfl (l_call (cap := []) s rfl func11 rfl (by kernel_rfl) rfl rfl (c_r41_Same n _ _ hT.lt r23 (Au109a1) (cu109a1) (hT.ft 159 rfl) [2, 6, 7] (some ⟨b110, 0, none⟩) (3) (hT.ft 161 rfl) r27 hr27) fun v111 a w hK hp s => ?_)
      obtain rfl := hp.trans (congrArg Value.bool hs30)
      refine qq s rfl (y_pick_t s rfl rfl) fun a s => ?_
      refine mv s rfl rfl fun a s => ?_
      refine gy s rfl (y_loadAll (kk := 1101) s rfl rfl underlying26 rfl rfl) fun a s => ?_
      refine gl s rfl (l_buildDense (sz := 1) s 1312 rfl rfl rfl underlying30 rfl rfl rfl rfl rfl rfl rfl fun b113 a w hbb113 hK s => ?_)
      clear hbb113
      replace s := s.add 162 (rdF (Rep.num .i64) (cellsOfL [vI 2, vI 7, vI 6]) ([2, 7, 6])) (RdAll.cons (by exact rfl) (RdAll.cons (by exact rfl) (RdAll.cons (by exact rfl) (RdAll.nil _ _ _))))
      replace s := s.freeze (R := (Rep.num .i64)) (kk := 1312) (L' := [(1101, Ob.box b7 [vI (r1.Top), vI (r1.Index), sl Au6a3 (r1.Vars) cu6a3, sl Au6a4 (r1.Rels) cu6a4, sl Au6a5 (r1.Cons) cu6a5] 26), (1201, Ob.row (some ⟨b12, 0, none⟩) (3) (3) 3 1 (cellsOfL [vI 2, vI 7, vI 6])), (1302, Ob.row (some ⟨b105, 0, none⟩) (3) (3) 3 1 (cellsOfL [vI 0, vI 4, vI 5])), (1307, Ob.row (some ⟨b110, 0, none⟩) (3) (3) 3 1 (cellsOfL [vI 2, vI 6, vI 7]))]) 163 rfl rfl (s.ft 162 rfl) ⟨rfl, rfl, rfl, rfl, trivial⟩ rfl
      refine gl s rfl (l_call (cap := []) s rfl func17 rfl (by kernel_rfl) rfl rfl (c_scope_Below n _ _ s.lt r1 (Au6a3) (cu6a3) (Au6a4) (cu6a4) (Au6a5) (cu6a5) (s.ft 104 rfl) (s.ft 105 rfl) (s.ft 106 rfl) [2, 7, 6] (some ⟨b113, 0, none⟩) (3) (s.ft 163 rfl) 2 r32 hr32) fun v114 a w hK hp s => ?_)
      obtain ⟨Au115a1, cu115a1, rfl, hu115a1⟩ := hp
      replace s := s.ns 164 hu115a1
      refine gl s rfl (l_buildDense (sz := 1) s 1314 rfl rfl rfl underlying30 rfl rfl rfl rfl rfl rfl rfl fun b116 a w hbb116 hK s => ?_)
      clear hbb116
      replace s := s.add 165 (rdF (Rep.num .i64) (cellsOfL [vI 2, vI 6, vI 7]) ([2, 6, 7])) (RdAll.cons (by exact rfl) (RdAll.cons (by exact rfl) (RdAll.cons (by exact rfl) (RdAll.nil _ _ _))))
      have hT := s
      replace hT := hT.fz (R := (Rep.num .i64)) (kk := 1314) [1101, 1201, 1302, 1307] 166 rfl rfl (hT.ft 165 rfl) rfl
      refine gl s rfl (l_call (cap := []) s rfl func11 rfl (by kernel_rfl) rfl rfl (c_r41_Same n _ _ hT.lt r32 (Au115a1) (cu115a1) (hT.ft 164 rfl) [2, 6, 7] (some ⟨b116, 0, none⟩) (3) (hT.ft 166 rfl) r36 hr36) fun v117 a w hK hp s => ?_)
      obtain rfl := hp.trans (congrArg Value.bool hs39)
      refine qq s rfl (y_pick_t s rfl rfl) fun a s => ?_
      refine mv s rfl rfl fun a s => ?_
      refine gy s rfl (y_loadAll (kk := 1101) s rfl rfl underlying26 rfl rfl) fun a s => ?_
      refine gl s rfl (l_buildDense (sz := 1) s 1319 rfl rfl rfl underlying30 rfl rfl rfl rfl rfl rfl rfl fun b119 a w hbb119 hK s => ?_)
      clear hbb119
      replace s := s.add 167 (rdF (Rep.num .i64) (cellsOfL [vI 2, vI 7, vI 6]) ([2, 7, 6])) (RdAll.cons (by exact rfl) (RdAll.cons (by exact rfl) (RdAll.cons (by exact rfl) (RdAll.nil _ _ _))))
      have hT := s
      replace hT := hT.fz (R := (Rep.num .i64)) (kk := 1319) [1101, 1201, 1302, 1307, 1314] 168 rfl rfl (hT.ft 167 rfl) rfl
      refine gl s rfl (l_call (cap := []) s rfl func19 rfl (by kernel_rfl) rfl rfl (c_scope_Valid n _ _ hT.lt r1 (Au6a3) (cu6a3) (Au6a4) (cu6a4) (Au6a5) (cu6a5) (hT.ft 104 rfl) (hT.ft 105 rfl) (hT.ft 106 rfl) [2, 7, 6] (some ⟨b119, 0, none⟩) (3) (hT.ft 168 rfl) r41 hr41) fun v120 a w hK hp s => ?_)
      obtain rfl := hp
      refine gy s rfl (yl_b (y_eql s rfl rfl) hs44e) fun a s => ?_
      refine qq s rfl (y_pick_t s rfl rfl) fun a s => ?_
      refine mv s rfl rfl fun a s => ?_
      refine gy s rfl (y_loadAll (kk := 1101) s rfl rfl underlying26 rfl rfl) fun a s => ?_
      refine gl s rfl (l_buildDense (sz := 1) s 1325 rfl rfl rfl underlying30 rfl rfl rfl rfl rfl rfl rfl fun b122 a w hbb122 hK s => ?_)
      clear hbb122
      replace s := s.add 169 (rdF (Rep.num .i64) (cellsOfL [vI 7, vI 2, vI 6]) ([7, 2, 6])) (RdAll.cons (by exact rfl) (RdAll.cons (by exact rfl) (RdAll.cons (by exact rfl) (RdAll.nil _ _ _))))
      have hT := s
      replace hT := hT.fz (R := (Rep.num .i64)) (kk := 1325) [1101, 1201, 1302, 1307, 1314, 1319] 170 rfl rfl (hT.ft 169 rfl) rfl
      refine gl s rfl (l_call (cap := []) s rfl func19 rfl (by kernel_rfl) rfl rfl (c_scope_Valid n _ _ hT.lt r1 (Au6a3) (cu6a3) (Au6a4) (cu6a4) (Au6a5) (cu6a5) (hT.ft 104 rfl) (hT.ft 105 rfl) (hT.ft 106 rfl) [7, 2, 6] (some ⟨b122, 0, none⟩) (3) (hT.ft 170 rfl) r46 hr46) fun v123 a w hK hp s => ?_)
      obtain rfl := hp
      refine gy s rfl (yl_b (y_eql s rfl rfl) hs49e) fun a s => ?_
      refine qq s rfl (y_pick_t s rfl rfl) fun a s => ?_
      refine mv s rfl rfl fun a s => ?_
      refine gy s rfl (y_loadAll (kk := 1101) s rfl rfl underlying26 rfl rfl) fun a s => ?_
      refine gl s rfl (l_call (cap := []) s rfl func19 rfl (by kernel_rfl) rfl rfl (c_scope_Valid n _ _ s.lt r1 (Au6a3) (cu6a3) (Au6a4) (cu6a4) (Au6a5) (cu6a5) (s.ft 104 rfl) (s.ft 105 rfl) (s.ft 106 rfl) [] (none) (0) (SlR.nil_ _ _ _) r50 hr50) fun v125 a w hK hp s => ?_)
      obtain rfl := hp
      refine gy s rfl (yl_b (y_eql s rfl rfl) hs53e) fun a s => ?_
      refine qq s rfl (y_pick_t s rfl rfl) fun a s => ?_
      refine mv s rfl rfl fun a s => ?_
      refine gn s rfl fun a s => ?_
      refine gn s rfl fun a s => ?_
      refine qq s rfl (y_pick_f s rfl rfl) fun a s => ?_
      refine mv s rfl rfl fun a s => ?_
      refine gn s rfl fun a s => ?_
      refine gn s rfl fun a s => ?_
      refine qq s rfl (y_pick_f s rfl rfl) fun a s => ?_
      refine asg s rfl rfl fun a s => ?_
      apply wN
      apply wp_ret
      obtain rfl := Option.some.inj hg
      refine fin1 (fn := Tryz.f10) s rfl (r_tmp s rfl) ?_
      exact rfl
     have hs49e := decide_eq_false hs49
     replace hg := br_f hg hs49
     apply wL
     refine qq s rfl (y_loadAll (kk := 1101) s rfl rfl underlying26 rfl rfl) fun a s => ?_
     refine l_seq rfl (l_call (cap := []) s rfl func12 rfl (by kernel_rfl) rfl rfl (c_scope_Holes n _ _ s.lt r1 (Au6a3) (cu6a3) (Au6a4) (cu6a4) (Au6a5) (cu6a5) (s.ft 104 rfl) (s.ft 105 rfl) (s.ft 106 rfl) r15 hr15) fun v127 a w hK hp s => ?_)
     obtain ⟨Au128a1, cu128a1, rfl, hu128a1⟩ := hp
     replace s := s.ns 171 hu128a1
     refine l_seq rfl (l_buildDense (sz := 1) s 1302 rfl rfl rfl underlying30 rfl rfl rfl rfl rfl rfl rfl fun b129 a w hbb129 hK s => ?_)
     clear hbb129
     replace s := s.add 172 (rdF (Rep.num .i64) (cellsOfL [vI 0, vI 4, vI 5]) ([0, 4, 5])) (RdAll.cons (by exact rfl) (RdAll.cons (by exact rfl) (RdAll.cons (by exact rfl) (RdAll.nil _ _ _))))
     have hT := s
     replace hT := hT.fz (R := (Rep.num .i64)) (kk := 1302) [1101, 1201] 173 rfl rfl (hT.ft 172 rfl) rfl
     refine l_seq rfl (l_call (cap := []) s rfl func11 rfl (by kernel_rfl) rfl rfl (c_r41_Same n _ _ hT.lt r15 (Au128a1) (cu128a1) (hT.ft 171 rfl) [0, 4, 5] (some ⟨b129, 0, none⟩) (3) (hT.ft 173 rfl) r19 hr19) fun v130 a w hK hp s => ?_)
     obtain rfl := hp.trans (congrArg Value.bool hs22)
     refine mv s rfl rfl fun a s => ?_
     refine gy s rfl (y_loadAll (kk := 1101) s rfl rfl underlying26 rfl rfl) fun a s => ?_
     refine gl s rfl (l_call (cap := []) s rfl func14 rfl (by kernel_rfl) rfl rfl (c_scope_Labels n _ _ s.lt r1 (Au6a3) (cu6a3) (Au6a4) (cu6a4) (Au6a5) (cu6a5) (s.ft 104 rfl) (s.ft 105 rfl) (s.ft 106 rfl) r23 hr23) fun v132 a w hK hp s => ?_)
     obtain ⟨Au133a1, cu133a1, rfl, hu133a1⟩ := hp
     replace s := s.ns 174 hu133a1
     refine gl s rfl (l_buildDense (sz := 1) s 1307 rfl rfl rfl underlying30 rfl rfl rfl rfl rfl rfl rfl fun b134 a w hbb134 hK s => ?_)
     clear hbb134
     replace s := s.add 175 (rdF (Rep.num .i64) (cellsOfL [vI 2, vI 6, vI 7]) ([2, 6, 7])) (RdAll.cons (by exact rfl) (RdAll.cons (by exact rfl) (RdAll.cons (by exact rfl) (RdAll.nil _ _ _))))
     have hT := s
     replace hT := hT.fz (R := (Rep.num .i64)) (kk := 1307) [1101, 1201, 1302] 176 rfl rfl (hT.ft 175 rfl) rfl
     refine gl s rfl (l_call (cap := []) s rfl func11 rfl (by kernel_rfl) rfl rfl (c_r41_Same n _ _ hT.lt r23 (Au133a1) (cu133a1) (hT.ft 174 rfl) [2, 6, 7] (some ⟨b134, 0, none⟩) (3) (hT.ft 176 rfl) r27 hr27) fun v135 a w hK hp s => ?_)
     obtain rfl := hp.trans (congrArg Value.bool hs30)
     refine qq s rfl (y_pick_t s rfl rfl) fun a s => ?_
     refine mv s rfl rfl fun a s => ?_
     refine gy s rfl (y_loadAll (kk := 1101) s rfl rfl underlying26 rfl rfl) fun a s => ?_
     refine gl s rfl (l_buildDense (sz := 1) s 1312 rfl rfl rfl underlying30 rfl rfl rfl rfl rfl rfl rfl fun b137 a w hbb137 hK s => ?_)
     clear hbb137
     replace s := s.add 177 (rdF (Rep.num .i64) (cellsOfL [vI 2, vI 7, vI 6]) ([2, 7, 6])) (RdAll.cons (by exact rfl) (RdAll.cons (by exact rfl) (RdAll.cons (by exact rfl) (RdAll.nil _ _ _))))
     replace s := s.freeze (R := (Rep.num .i64)) (kk := 1312) (L' := [(1101, Ob.box b7 [vI (r1.Top), vI (r1.Index), sl Au6a3 (r1.Vars) cu6a3, sl Au6a4 (r1.Rels) cu6a4, sl Au6a5 (r1.Cons) cu6a5] 26), (1201, Ob.row (some ⟨b12, 0, none⟩) (3) (3) 3 1 (cellsOfL [vI 2, vI 7, vI 6])), (1302, Ob.row (some ⟨b129, 0, none⟩) (3) (3) 3 1 (cellsOfL [vI 0, vI 4, vI 5])), (1307, Ob.row (some ⟨b134, 0, none⟩) (3) (3) 3 1 (cellsOfL [vI 2, vI 6, vI 7]))]) 178 rfl rfl (s.ft 177 rfl) ⟨rfl, rfl, rfl, rfl, trivial⟩ rfl
     refine gl s rfl (l_call (cap := []) s rfl func17 rfl (by kernel_rfl) rfl rfl (c_scope_Below n _ _ s.lt r1 (Au6a3) (cu6a3) (Au6a4) (cu6a4) (Au6a5) (cu6a5) (s.ft 104 rfl) (s.ft 105 rfl) (s.ft 106 rfl) [2, 7, 6] (some ⟨b137, 0, none⟩) (3) (s.ft 178 rfl) 2 r32 hr32) fun v138 a w hK hp s => ?_)
     obtain ⟨Au139a1, cu139a1, rfl, hu139a1⟩ := hp
     replace s := s.ns 179 hu139a1
     refine gl s rfl (l_buildDense (sz := 1) s 1314 rfl rfl rfl underlying30 rfl rfl rfl rfl rfl rfl rfl fun b140 a w hbb140 hK s => ?_)
     clear hbb140
     replace s := s.add 180 (rdF (Rep.num .i64) (cellsOfL [vI 2, vI 6, vI 7]) ([2, 6, 7])) (RdAll.cons (by exact rfl) (RdAll.cons (by exact rfl) (RdAll.cons (by exact rfl) (RdAll.nil _ _ _))))
     have hT := s
     replace hT := hT.fz (R := (Rep.num .i64)) (kk := 1314) [1101, 1201, 1302, 1307] 181 rfl rfl (hT.ft 180 rfl) rfl
     refine gl s rfl (l_call (cap := []) s rfl func11 rfl (by kernel_rfl) rfl rfl (c_r41_Same n _ _ hT.lt r32 (Au139a1) (cu139a1) (hT.ft 179 rfl) [2, 6, 7] (some ⟨b140, 0, none⟩) (3) (hT.ft 181 rfl) r36 hr36) fun v141 a w hK hp s => ?_)
     obtain rfl := hp.trans (congrArg Value.bool hs39)
     refine qq s rfl (y_pick_t s rfl rfl) fun a s => ?_
     refine mv s rfl rfl fun a s => ?_
     refine gy s rfl (y_loadAll (kk := 1101) s rfl rfl underlying26 rfl rfl) fun a s => ?_
     refine gl s rfl (l_buildDense (sz := 1) s 1319 rfl rfl rfl underlying30 rfl rfl rfl rfl rfl rfl rfl fun b143 a w hbb143 hK s => ?_)
     clear hbb143
     replace s := s.add 182 (rdF (Rep.num .i64) (cellsOfL [vI 2, vI 7, vI 6]) ([2, 7, 6])) (RdAll.cons (by exact rfl) (RdAll.cons (by exact rfl) (RdAll.cons (by exact rfl) (RdAll.nil _ _ _))))
     have hT := s
     replace hT := hT.fz (R := (Rep.num .i64)) (kk := 1319) [1101, 1201, 1302, 1307, 1314] 183 rfl rfl (hT.ft 182 rfl) rfl
     refine gl s rfl (l_call (cap := []) s rfl func19 rfl (by kernel_rfl) rfl rfl (c_scope_Valid n _ _ hT.lt r1 (Au6a3) (cu6a3) (Au6a4) (cu6a4) (Au6a5) (cu6a5) (hT.ft 104 rfl) (hT.ft 105 rfl) (hT.ft 106 rfl) [2, 7, 6] (some ⟨b143, 0, none⟩) (3) (hT.ft 183 rfl) r41 hr41) fun v144 a w hK hp s => ?_)
     obtain rfl := hp
     refine gy s rfl (yl_b (y_eql s rfl rfl) hs44e) fun a s => ?_
     refine qq s rfl (y_pick_t s rfl rfl) fun a s => ?_
     refine mv s rfl rfl fun a s => ?_
     refine gy s rfl (y_loadAll (kk := 1101) s rfl rfl underlying26 rfl rfl) fun a s => ?_
     refine gl s rfl (l_buildDense (sz := 1) s 1325 rfl rfl rfl underlying30 rfl rfl rfl rfl rfl rfl rfl fun b146 a w hbb146 hK s => ?_)
     clear hbb146
     replace s := s.add 184 (rdF (Rep.num .i64) (cellsOfL [vI 7, vI 2, vI 6]) ([7, 2, 6])) (RdAll.cons (by exact rfl) (RdAll.cons (by exact rfl) (RdAll.cons (by exact rfl) (RdAll.nil _ _ _))))
     have hT := s
     replace hT := hT.fz (R := (Rep.num .i64)) (kk := 1325) [1101, 1201, 1302, 1307, 1314, 1319] 185 rfl rfl (hT.ft 184 rfl) rfl
     refine gl s rfl (l_call (cap := []) s rfl func19 rfl (by kernel_rfl) rfl rfl (c_scope_Valid n _ _ hT.lt r1 (Au6a3) (cu6a3) (Au6a4) (cu6a4) (Au6a5) (cu6a5) (hT.ft 104 rfl) (hT.ft 105 rfl) (hT.ft 106 rfl) [7, 2, 6] (some ⟨b146, 0, none⟩) (3) (hT.ft 185 rfl) r46 hr46) fun v147 a w hK hp s => ?_)
     obtain rfl := hp
     refine gy s rfl (yl_b (y_eql s rfl rfl) hs49e) fun a s => ?_
     refine qq s rfl (y_pick_t s rfl rfl) fun a s => ?_
     refine mv s rfl rfl fun a s => ?_
     refine gn s rfl fun a s => ?_
     refine gn s rfl fun a s => ?_
     refine gn s rfl fun a s => ?_
     refine qq s rfl (y_pick_f s rfl rfl) fun a s => ?_
     refine mv s rfl rfl fun a s => ?_
     refine gn s rfl fun a s => ?_
     refine gn s rfl fun a s => ?_
     refine qq s rfl (y_pick_f s rfl rfl) fun a s => ?_
     refine mv s rfl rfl fun a s => ?_
     refine gn s rfl fun a s => ?_
     refine gn s rfl fun a s => ?_
     refine qq s rfl (y_pick_f s rfl rfl) fun a s => ?_
     refine asg s rfl rfl fun a s => ?_
     apply wN
     apply wp_ret
     obtain rfl := Option.some.inj hg
     refine fin1 (fn := Tryz.f10) s rfl (r_tmp s rfl) ?_
     exact rfl
    have hs44e := decide_eq_false hs44
    replace hg := br_f hg hs44
    apply wL
    refine qq s rfl (y_loadAll (kk := 1101) s rfl rfl underlying26 rfl rfl) fun a s => ?_
    refine l_seq rfl (l_call (cap := []) s rfl func12 rfl (by kernel_rfl) rfl rfl (c_scope_Holes n _ _ s.lt r1 (Au6a3) (cu6a3) (Au6a4) (cu6a4) (Au6a5) (cu6a5) (s.ft 104 rfl) (s.ft 105 rfl) (s.ft 106 rfl) r15 hr15) fun v149 a w hK hp s => ?_)
    obtain ⟨Au150a1, cu150a1, rfl, hu150a1⟩ := hp
    replace s := s.ns 186 hu150a1
    refine l_seq rfl (l_buildDense (sz := 1) s 1302 rfl rfl rfl underlying30 rfl rfl rfl rfl rfl rfl rfl fun b151 a w hbb151 hK s => ?_)
    clear hbb151
    replace s := s.add 187 (rdF (Rep.num .i64) (cellsOfL [vI 0, vI 4, vI 5]) ([0, 4, 5])) (RdAll.cons (by exact rfl) (RdAll.cons (by exact rfl) (RdAll.cons (by exact rfl) (RdAll.nil _ _ _))))
    have hT := s
    replace hT := hT.fz (R := (Rep.num .i64)) (kk := 1302) [1101, 1201] 188 rfl rfl (hT.ft 187 rfl) rfl
    refine l_seq rfl (l_call (cap := []) s rfl func11 rfl (by kernel_rfl) rfl rfl (c_r41_Same n _ _ hT.lt r15 (Au150a1) (cu150a1) (hT.ft 186 rfl) [0, 4, 5] (some ⟨b151, 0, none⟩) (3) (hT.ft 188 rfl) r19 hr19) fun v152 a w hK hp s => ?_)
    obtain rfl := hp.trans (congrArg Value.bool hs22)
    refine mv s rfl rfl fun a s => ?_
    refine gy s rfl (y_loadAll (kk := 1101) s rfl rfl underlying26 rfl rfl) fun a s => ?_
    refine gl s rfl (l_call (cap := []) s rfl func14 rfl (by kernel_rfl) rfl rfl (c_scope_Labels n _ _ s.lt r1 (Au6a3) (cu6a3) (Au6a4) (cu6a4) (Au6a5) (cu6a5) (s.ft 104 rfl) (s.ft 105 rfl) (s.ft 106 rfl) r23 hr23) fun v154 a w hK hp s => ?_)
    obtain ⟨Au155a1, cu155a1, rfl, hu155a1⟩ := hp
    replace s := s.ns 189 hu155a1
    refine gl s rfl (l_buildDense (sz := 1) s 1307 rfl rfl rfl underlying30 rfl rfl rfl rfl rfl rfl rfl fun b156 a w hbb156 hK s => ?_)
    clear hbb156
    replace s := s.add 190 (rdF (Rep.num .i64) (cellsOfL [vI 2, vI 6, vI 7]) ([2, 6, 7])) (RdAll.cons (by exact rfl) (RdAll.cons (by exact rfl) (RdAll.cons (by exact rfl) (RdAll.nil _ _ _))))
    have hT := s
    replace hT := hT.fz (R := (Rep.num .i64)) (kk := 1307) [1101, 1201, 1302] 191 rfl rfl (hT.ft 190 rfl) rfl
    refine gl s rfl (l_call (cap := []) s rfl func11 rfl (by kernel_rfl) rfl rfl (c_r41_Same n _ _ hT.lt r23 (Au155a1) (cu155a1) (hT.ft 189 rfl) [2, 6, 7] (some ⟨b156, 0, none⟩) (3) (hT.ft 191 rfl) r27 hr27) fun v157 a w hK hp s => ?_)
    obtain rfl := hp.trans (congrArg Value.bool hs30)
    refine qq s rfl (y_pick_t s rfl rfl) fun a s => ?_
    refine mv s rfl rfl fun a s => ?_
    refine gy s rfl (y_loadAll (kk := 1101) s rfl rfl underlying26 rfl rfl) fun a s => ?_
    refine gl s rfl (l_buildDense (sz := 1) s 1312 rfl rfl rfl underlying30 rfl rfl rfl rfl rfl rfl rfl fun b159 a w hbb159 hK s => ?_)
    clear hbb159
    replace s := s.add 192 (rdF (Rep.num .i64) (cellsOfL [vI 2, vI 7, vI 6]) ([2, 7, 6])) (RdAll.cons (by exact rfl) (RdAll.cons (by exact rfl) (RdAll.cons (by exact rfl) (RdAll.nil _ _ _))))
    replace s := s.freeze (R := (Rep.num .i64)) (kk := 1312) (L' := [(1101, Ob.box b7 [vI (r1.Top), vI (r1.Index), sl Au6a3 (r1.Vars) cu6a3, sl Au6a4 (r1.Rels) cu6a4, sl Au6a5 (r1.Cons) cu6a5] 26), (1201, Ob.row (some ⟨b12, 0, none⟩) (3) (3) 3 1 (cellsOfL [vI 2, vI 7, vI 6])), (1302, Ob.row (some ⟨b151, 0, none⟩) (3) (3) 3 1 (cellsOfL [vI 0, vI 4, vI 5])), (1307, Ob.row (some ⟨b156, 0, none⟩) (3) (3) 3 1 (cellsOfL [vI 2, vI 6, vI 7]))]) 193 rfl rfl (s.ft 192 rfl) ⟨rfl, rfl, rfl, rfl, trivial⟩ rfl
    refine gl s rfl (l_call (cap := []) s rfl func17 rfl (by kernel_rfl) rfl rfl (c_scope_Below n _ _ s.lt r1 (Au6a3) (cu6a3) (Au6a4) (cu6a4) (Au6a5) (cu6a5) (s.ft 104 rfl) (s.ft 105 rfl) (s.ft 106 rfl) [2, 7, 6] (some ⟨b159, 0, none⟩) (3) (s.ft 193 rfl) 2 r32 hr32) fun v160 a w hK hp s => ?_)
    obtain ⟨Au161a1, cu161a1, rfl, hu161a1⟩ := hp
    replace s := s.ns 194 hu161a1
    refine gl s rfl (l_buildDense (sz := 1) s 1314 rfl rfl rfl underlying30 rfl rfl rfl rfl rfl rfl rfl fun b162 a w hbb162 hK s => ?_)
    clear hbb162
    replace s := s.add 195 (rdF (Rep.num .i64) (cellsOfL [vI 2, vI 6, vI 7]) ([2, 6, 7])) (RdAll.cons (by exact rfl) (RdAll.cons (by exact rfl) (RdAll.cons (by exact rfl) (RdAll.nil _ _ _))))
    have hT := s
    replace hT := hT.fz (R := (Rep.num .i64)) (kk := 1314) [1101, 1201, 1302, 1307] 196 rfl rfl (hT.ft 195 rfl) rfl
    refine gl s rfl (l_call (cap := []) s rfl func11 rfl (by kernel_rfl) rfl rfl (c_r41_Same n _ _ hT.lt r32 (Au161a1) (cu161a1) (hT.ft 194 rfl) [2, 6, 7] (some ⟨b162, 0, none⟩) (3) (hT.ft 196 rfl) r36 hr36) fun v163 a w hK hp s => ?_)
    obtain rfl := hp.trans (congrArg Value.bool hs39)
    refine qq s rfl (y_pick_t s rfl rfl) fun a s => ?_
    refine mv s rfl rfl fun a s => ?_
    refine gy s rfl (y_loadAll (kk := 1101) s rfl rfl underlying26 rfl rfl) fun a s => ?_
    refine gl s rfl (l_buildDense (sz := 1) s 1319 rfl rfl rfl underlying30 rfl rfl rfl rfl rfl rfl rfl fun b165 a w hbb165 hK s => ?_)
    clear hbb165
    replace s := s.add 197 (rdF (Rep.num .i64) (cellsOfL [vI 2, vI 7, vI 6]) ([2, 7, 6])) (RdAll.cons (by exact rfl) (RdAll.cons (by exact rfl) (RdAll.cons (by exact rfl) (RdAll.nil _ _ _))))
    have hT := s
    replace hT := hT.fz (R := (Rep.num .i64)) (kk := 1319) [1101, 1201, 1302, 1307, 1314] 198 rfl rfl (hT.ft 197 rfl) rfl
    refine gl s rfl (l_call (cap := []) s rfl func19 rfl (by kernel_rfl) rfl rfl (c_scope_Valid n _ _ hT.lt r1 (Au6a3) (cu6a3) (Au6a4) (cu6a4) (Au6a5) (cu6a5) (hT.ft 104 rfl) (hT.ft 105 rfl) (hT.ft 106 rfl) [2, 7, 6] (some ⟨b165, 0, none⟩) (3) (hT.ft 198 rfl) r41 hr41) fun v166 a w hK hp s => ?_)
    obtain rfl := hp
    refine gy s rfl (yl_b (y_eql s rfl rfl) hs44e) fun a s => ?_
    refine qq s rfl (y_pick_t s rfl rfl) fun a s => ?_
    refine mv s rfl rfl fun a s => ?_
    refine gn s rfl fun a s => ?_
    refine gn s rfl fun a s => ?_
    refine gn s rfl fun a s => ?_
    refine gn s rfl fun a s => ?_
    refine qq s rfl (y_pick_f s rfl rfl) fun a s => ?_
    refine mv s rfl rfl fun a s => ?_
    refine gn s rfl fun a s => ?_
    refine gn s rfl fun a s => ?_
    refine gn s rfl fun a s => ?_
    refine qq s rfl (y_pick_f s rfl rfl) fun a s => ?_
    refine mv s rfl rfl fun a s => ?_
    refine gn s rfl fun a s => ?_
    refine gn s rfl fun a s => ?_
    refine qq s rfl (y_pick_f s rfl rfl) fun a s => ?_
    refine mv s rfl rfl fun a s => ?_
    refine gn s rfl fun a s => ?_
    refine gn s rfl fun a s => ?_
    refine qq s rfl (y_pick_f s rfl rfl) fun a s => ?_
    refine asg s rfl rfl fun a s => ?_
    apply wN
    apply wp_ret
    obtain rfl := Option.some.inj hg
    refine fin1 (fn := Tryz.f10) s rfl (r_tmp s rfl) ?_
    exact rfl
   replace hg := br_n hg hs39
   apply wL
   refine qq s rfl (y_loadAll (kk := 1101) s rfl rfl underlying26 rfl rfl) fun a s => ?_
   refine l_seq rfl (l_call (cap := []) s rfl func12 rfl (by kernel_rfl) rfl rfl (c_scope_Holes n _ _ s.lt r1 (Au6a3) (cu6a3) (Au6a4) (cu6a4) (Au6a5) (cu6a5) (s.ft 104 rfl) (s.ft 105 rfl) (s.ft 106 rfl) r15 hr15) fun v168 a w hK hp s => ?_)
   obtain ⟨Au169a1, cu169a1, rfl, hu169a1⟩ := hp
   replace s := s.ns 199 hu169a1
   refine l_seq rfl (l_buildDense (sz := 1) s 1302 rfl rfl rfl underlying30 rfl rfl rfl rfl rfl rfl rfl fun b170 a w hbb170 hK s => ?_)
   clear hbb170
   replace s := s.add 200 (rdF (Rep.num .i64) (cellsOfL [vI 0, vI 4, vI 5]) ([0, 4, 5])) (RdAll.cons (by exact rfl) (RdAll.cons (by exact rfl) (RdAll.cons (by exact rfl) (RdAll.nil _ _ _))))
   have hT := s
   replace hT := hT.fz (R := (Rep.num .i64)) (kk := 1302) [1101, 1201] 201 rfl rfl (hT.ft 200 rfl) rfl
   refine l_seq rfl (l_call (cap := []) s rfl func11 rfl (by kernel_rfl) rfl rfl (c_r41_Same n _ _ hT.lt r15 (Au169a1) (cu169a1) (hT.ft 199 rfl) [0, 4, 5] (some ⟨b170, 0, none⟩) (3) (hT.ft 201 rfl) r19 hr19) fun v171 a w hK hp s => ?_)
   obtain rfl := hp.trans (congrArg Value.bool hs22)
   refine mv s rfl rfl fun a s => ?_
   refine gy s rfl (y_loadAll (kk := 1101) s rfl rfl underlying26 rfl rfl) fun a s => ?_
   refine gl s rfl (l_call (cap := []) s rfl func14 rfl (by kernel_rfl) rfl rfl (c_scope_Labels n _ _ s.lt r1 (Au6a3) (cu6a3) (Au6a4) (cu6a4) (Au6a5) (cu6a5) (s.ft 104 rfl) (s.ft 105 rfl) (s.ft 106 rfl) r23 hr23) fun v173 a w hK hp s => ?_)
   obtain ⟨Au174a1, cu174a1, rfl, hu174a1⟩ := hp
   replace s := s.ns 202 hu174a1
   refine gl s rfl (l_buildDense (sz := 1) s 1307 rfl rfl rfl underlying30 rfl rfl rfl rfl rfl rfl rfl fun b175 a w hbb175 hK s => ?_)
   clear hbb175
   replace s := s.add 203 (rdF (Rep.num .i64) (cellsOfL [vI 2, vI 6, vI 7]) ([2, 6, 7])) (RdAll.cons (by exact rfl) (RdAll.cons (by exact rfl) (RdAll.cons (by exact rfl) (RdAll.nil _ _ _))))
   have hT := s
   replace hT := hT.fz (R := (Rep.num .i64)) (kk := 1307) [1101, 1201, 1302] 204 rfl rfl (hT.ft 203 rfl) rfl
   refine gl s rfl (l_call (cap := []) s rfl func11 rfl (by kernel_rfl) rfl rfl (c_r41_Same n _ _ hT.lt r23 (Au174a1) (cu174a1) (hT.ft 202 rfl) [2, 6, 7] (some ⟨b175, 0, none⟩) (3) (hT.ft 204 rfl) r27 hr27) fun v176 a w hK hp s => ?_)
   obtain rfl := hp.trans (congrArg Value.bool hs30)
   refine qq s rfl (y_pick_t s rfl rfl) fun a s => ?_
   refine mv s rfl rfl fun a s => ?_
   refine gy s rfl (y_loadAll (kk := 1101) s rfl rfl underlying26 rfl rfl) fun a s => ?_
   refine gl s rfl (l_buildDense (sz := 1) s 1312 rfl rfl rfl underlying30 rfl rfl rfl rfl rfl rfl rfl fun b178 a w hbb178 hK s => ?_)
   clear hbb178
   replace s := s.add 205 (rdF (Rep.num .i64) (cellsOfL [vI 2, vI 7, vI 6]) ([2, 7, 6])) (RdAll.cons (by exact rfl) (RdAll.cons (by exact rfl) (RdAll.cons (by exact rfl) (RdAll.nil _ _ _))))
   replace s := s.freeze (R := (Rep.num .i64)) (kk := 1312) (L' := [(1101, Ob.box b7 [vI (r1.Top), vI (r1.Index), sl Au6a3 (r1.Vars) cu6a3, sl Au6a4 (r1.Rels) cu6a4, sl Au6a5 (r1.Cons) cu6a5] 26), (1201, Ob.row (some ⟨b12, 0, none⟩) (3) (3) 3 1 (cellsOfL [vI 2, vI 7, vI 6])), (1302, Ob.row (some ⟨b170, 0, none⟩) (3) (3) 3 1 (cellsOfL [vI 0, vI 4, vI 5])), (1307, Ob.row (some ⟨b175, 0, none⟩) (3) (3) 3 1 (cellsOfL [vI 2, vI 6, vI 7]))]) 206 rfl rfl (s.ft 205 rfl) ⟨rfl, rfl, rfl, rfl, trivial⟩ rfl
   refine gl s rfl (l_call (cap := []) s rfl func17 rfl (by kernel_rfl) rfl rfl (c_scope_Below n _ _ s.lt r1 (Au6a3) (cu6a3) (Au6a4) (cu6a4) (Au6a5) (cu6a5) (s.ft 104 rfl) (s.ft 105 rfl) (s.ft 106 rfl) [2, 7, 6] (some ⟨b178, 0, none⟩) (3) (s.ft 206 rfl) 2 r32 hr32) fun v179 a w hK hp s => ?_)
   obtain ⟨Au180a1, cu180a1, rfl, hu180a1⟩ := hp
   replace s := s.ns 207 hu180a1
   refine gl s rfl (l_buildDense (sz := 1) s 1314 rfl rfl rfl underlying30 rfl rfl rfl rfl rfl rfl rfl fun b181 a w hbb181 hK s => ?_)
   clear hbb181
   replace s := s.add 208 (rdF (Rep.num .i64) (cellsOfL [vI 2, vI 6, vI 7]) ([2, 6, 7])) (RdAll.cons (by exact rfl) (RdAll.cons (by exact rfl) (RdAll.cons (by exact rfl) (RdAll.nil _ _ _))))
   have hT := s
   replace hT := hT.fz (R := (Rep.num .i64)) (kk := 1314) [1101, 1201, 1302, 1307] 209 rfl rfl (hT.ft 208 rfl) rfl
   refine gl s rfl (l_call (cap := []) s rfl func11 rfl (by kernel_rfl) rfl rfl (c_r41_Same n _ _ hT.lt r32 (Au180a1) (cu180a1) (hT.ft 207 rfl) [2, 6, 7] (some ⟨b181, 0, none⟩) (3) (hT.ft 209 rfl) r36 hr36) fun v182 a w hK hp s => ?_)
   obtain rfl := hp.trans (congrArg Value.bool hs39)
   refine qq s rfl (y_pick_t s rfl rfl) fun a s => ?_
   refine mv s rfl rfl fun a s => ?_
   refine gn s rfl fun a s => ?_
   refine gn s rfl fun a s => ?_
   refine gn s rfl fun a s => ?_
   refine gn s rfl fun a s => ?_
   refine qq s rfl (y_pick_f s rfl rfl) fun a s => ?_
   refine mv s rfl rfl fun a s => ?_
   refine gn s rfl fun a s => ?_
   refine gn s rfl fun a s => ?_
   refine gn s rfl fun a s => ?_
   refine gn s rfl fun a s => ?_
   refine qq s rfl (y_pick_f s rfl rfl) fun a s => ?_
   refine mv s rfl rfl fun a s => ?_
   refine gn s rfl fun a s => ?_
   refine gn s rfl fun a s => ?_
   refine gn s rfl fun a s => ?_
   refine qq s rfl (y_pick_f s rfl rfl) fun a s => ?_
   refine mv s rfl rfl fun a s => ?_
   refine gn s rfl fun a s => ?_
   refine gn s rfl fun a s => ?_
   refine qq s rfl (y_pick_f s rfl rfl) fun a s => ?_
   refine mv s rfl rfl fun a s => ?_
   refine gn s rfl fun a s => ?_
   refine gn s rfl fun a s => ?_
   refine qq s rfl (y_pick_f s rfl rfl) fun a s => ?_
   refine asg s rfl rfl fun a s => ?_
   apply wN
   apply wp_ret
   obtain rfl := Option.some.inj hg
   refine fin1 (fn := Tryz.f10) s rfl (r_tmp s rfl) ?_
   exact rfl
  replace hg := br_n hg hs30
  apply wL
  refine qq s rfl (y_loadAll (kk := 1101) s rfl rfl underlying26 rfl rfl) fun a s => ?_
  refine l_seq rfl (l_call (cap := []) s rfl func12 rfl (by kernel_rfl) rfl rfl (c_scope_Holes n _ _ s.lt r1 (Au6a3) (cu6a3) (Au6a4) (cu6a4) (Au6a5) (cu6a5) (s.ft 104 rfl) (s.ft 105 rfl) (s.ft 106 rfl) r15 hr15) fun v184 a w hK hp s => ?_)
  obtain ⟨Au185a1, cu185a1, rfl, hu185a1⟩ := hp
  replace s := s.ns 210 hu185a1
  refine l_seq rfl (l_buildDense (sz := 1) s 1302 rfl rfl rfl underlying30 rfl rfl rfl rfl rfl rfl rfl fun b186 a w hbb186 hK s => ?_)
  clear hbb186
  replace s := s.add 211 (rdF (Rep.num .i64) (cellsOfL [vI 0, vI 4, vI 5]) ([0, 4, 5])) (RdAll.cons (by exact rfl) (RdAll.cons (by exact rfl) (RdAll.cons (by exact rfl) (RdAll.nil _ _ _))))
  have hT := s
  replace hT := hT.fz (R := (Rep.num .i64)) (kk := 1302) [1101, 1201] 212 rfl rfl (hT.ft 211 rfl) rfl
  refine l_seq rfl (l_call (cap := []) s rfl func11 rfl (by kernel_rfl) rfl rfl (c_r41_Same n _ _ hT.lt r15 (Au185a1) (cu185a1) (hT.ft 210 rfl) [0, 4, 5] (some ⟨b186, 0, none⟩) (3) (hT.ft 212 rfl) r19 hr19) fun v187 a w hK hp s => ?_)
  obtain rfl := hp.trans (congrArg Value.bool hs22)
  refine mv s rfl rfl fun a s => ?_
  refine gy s rfl (y_loadAll (kk := 1101) s rfl rfl underlying26 rfl rfl) fun a s => ?_
  refine gl s rfl (l_call (cap := []) s rfl func14 rfl (by kernel_rfl) rfl rfl (c_scope_Labels n _ _ s.lt r1 (Au6a3) (cu6a3) (Au6a4) (cu6a4) (Au6a5) (cu6a5) (s.ft 104 rfl) (s.ft 105 rfl) (s.ft 106 rfl) r23 hr23) fun v189 a w hK hp s => ?_)
  obtain ⟨Au190a1, cu190a1, rfl, hu190a1⟩ := hp
  replace s := s.ns 213 hu190a1
  refine gl s rfl (l_buildDense (sz := 1) s 1307 rfl rfl rfl underlying30 rfl rfl rfl rfl rfl rfl rfl fun b191 a w hbb191 hK s => ?_)
  clear hbb191
  replace s := s.add 214 (rdF (Rep.num .i64) (cellsOfL [vI 2, vI 6, vI 7]) ([2, 6, 7])) (RdAll.cons (by exact rfl) (RdAll.cons (by exact rfl) (RdAll.cons (by exact rfl) (RdAll.nil _ _ _))))
  have hT := s
  replace hT := hT.fz (R := (Rep.num .i64)) (kk := 1307) [1101, 1201, 1302] 215 rfl rfl (hT.ft 214 rfl) rfl
  refine gl s rfl (l_call (cap := []) s rfl func11 rfl (by kernel_rfl) rfl rfl (c_r41_Same n _ _ hT.lt r23 (Au190a1) (cu190a1) (hT.ft 213 rfl) [2, 6, 7] (some ⟨b191, 0, none⟩) (3) (hT.ft 215 rfl) r27 hr27) fun v192 a w hK hp s => ?_)
  obtain rfl := hp.trans (congrArg Value.bool hs30)
  refine qq s rfl (y_pick_t s rfl rfl) fun a s => ?_
  refine mv s rfl rfl fun a s => ?_
  refine gn s rfl fun a s => ?_
  refine gn s rfl fun a s => ?_
  refine gn s rfl fun a s => ?_
  refine gn s rfl fun a s => ?_
  refine gn s rfl fun a s => ?_
  refine qq s rfl (y_pick_f s rfl rfl) fun a s => ?_
  refine mv s rfl rfl fun a s => ?_
  refine gn s rfl fun a s => ?_
  refine gn s rfl fun a s => ?_
  refine gn s rfl fun a s => ?_
  refine gn s rfl fun a s => ?_
  refine qq s rfl (y_pick_f s rfl rfl) fun a s => ?_
  refine mv s rfl rfl fun a s => ?_
  refine gn s rfl fun a s => ?_
  refine gn s rfl fun a s => ?_
  refine gn s rfl fun a s => ?_
  refine gn s rfl fun a s => ?_
  refine qq s rfl (y_pick_f s rfl rfl) fun a s => ?_
  refine mv s rfl rfl fun a s => ?_
  refine gn s rfl fun a s => ?_
  refine gn s rfl fun a s => ?_
  refine gn s rfl fun a s => ?_
  refine qq s rfl (y_pick_f s rfl rfl) fun a s => ?_
  refine mv s rfl rfl fun a s => ?_
  refine gn s rfl fun a s => ?_
  refine gn s rfl fun a s => ?_
  refine qq s rfl (y_pick_f s rfl rfl) fun a s => ?_
  refine mv s rfl rfl fun a s => ?_
  refine gn s rfl fun a s => ?_
  refine gn s rfl fun a s => ?_
  refine qq s rfl (y_pick_f s rfl rfl) fun a s => ?_
  refine asg s rfl rfl fun a s => ?_
  apply wN
  apply wp_ret
  obtain rfl := Option.some.inj hg
  refine fin1 (fn := Tryz.f10) s rfl (r_tmp s rfl) ?_
  exact rfl
 replace hg := br_n hg hs22
 apply wL
 refine qq s rfl (y_loadAll (kk := 1101) s rfl rfl underlying26 rfl rfl) fun a s => ?_
 refine l_seq rfl (l_call (cap := []) s rfl func12 rfl (by kernel_rfl) rfl rfl (c_scope_Holes n _ _ s.lt r1 (Au6a3) (cu6a3) (Au6a4) (cu6a4) (Au6a5) (cu6a5) (s.ft 104 rfl) (s.ft 105 rfl) (s.ft 106 rfl) r15 hr15) fun v194 a w hK hp s => ?_)
 obtain ⟨Au195a1, cu195a1, rfl, hu195a1⟩ := hp
 replace s := s.ns 216 hu195a1
 refine l_seq rfl (l_buildDense (sz := 1) s 1302 rfl rfl rfl underlying30 rfl rfl rfl rfl rfl rfl rfl fun b196 a w hbb196 hK s => ?_)
 clear hbb196
 replace s := s.add 217 (rdF (Rep.num .i64) (cellsOfL [vI 0, vI 4, vI 5]) ([0, 4, 5])) (RdAll.cons (by exact rfl) (RdAll.cons (by exact rfl) (RdAll.cons (by exact rfl) (RdAll.nil _ _ _))))
 have hT := s
 replace hT := hT.fz (R := (Rep.num .i64)) (kk := 1302) [1101, 1201] 218 rfl rfl (hT.ft 217 rfl) rfl
 refine l_seq rfl (l_call (cap := []) s rfl func11 rfl (by kernel_rfl) rfl rfl (c_r41_Same n _ _ hT.lt r15 (Au195a1) (cu195a1) (hT.ft 216 rfl) [0, 4, 5] (some ⟨b196, 0, none⟩) (3) (hT.ft 218 rfl) r19 hr19) fun v197 a w hK hp s => ?_)
 obtain rfl := hp.trans (congrArg Value.bool hs22)
 refine mv s rfl rfl fun a s => ?_
 refine gn s rfl fun a s => ?_
 refine gn s rfl fun a s => ?_
 refine gn s rfl fun a s => ?_
 refine gn s rfl fun a s => ?_
 refine qq s rfl (y_pick_f s rfl rfl) fun a s => ?_
 refine mv s rfl rfl fun a s => ?_
 refine gn s rfl fun a s => ?_
 refine gn s rfl fun a s => ?_
 refine gn s rfl fun a s => ?_
 refine gn s rfl fun a s => ?_
 refine gn s rfl fun a s => ?_
 refine qq s rfl (y_pick_f s rfl rfl) fun a s => ?_
 refine mv s rfl rfl fun a s => ?_
 refine gn s rfl fun a s => ?_
 refine gn s rfl fun a s => ?_
 refine gn s rfl fun a s => ?_
 refine gn s rfl fun a s => ?_
 refine qq s rfl (y_pick_f s rfl rfl) fun a s => ?_
 refine mv s rfl rfl fun a s => ?_
 refine gn s rfl fun a s => ?_
 refine gn s rfl fun a s => ?_
 refine gn s rfl fun a s => ?_
 refine gn s rfl fun a s => ?_
 refine qq s rfl (y_pick_f s rfl rfl) fun a s => ?_
 refine mv s rfl rfl fun a s => ?_
 refine gn s rfl fun a s => ?_
 refine gn s rfl fun a s => ?_
 refine gn s rfl fun a s => ?_
 refine qq s rfl (y_pick_f s rfl rfl) fun a s => ?_
 refine mv s rfl rfl fun a s => ?_
 refine gn s rfl fun a s => ?_
 refine gn s rfl fun a s => ?_
 refine qq s rfl (y_pick_f s rfl rfl) fun a s => ?_
 refine mv s rfl rfl fun a s => ?_
 refine gn s rfl fun a s => ?_
 refine gn s rfl fun a s => ?_
 refine qq s rfl (y_pick_f s rfl rfl) fun a s => ?_
 refine asg s rfl rfl fun a s => ?_
 apply wN
 apply wp_ret
 obtain rfl := Option.some.inj hg
 refine fin1 (fn := Tryz.f10) s rfl (r_tmp s rfl) ?_
 exact rfl
set_option maxHeartbeats 400000 in
theorem c_r41_Labels (n : Nat) (M : Bs) (w0 : World) (hM : ∀ b, M b → b < w0.heap.size) (m_ : MRS) (Ap03 : Option Addr) (cp03 : Nat) (Ap04 : Option Addr) (cp04 : Nat) (Ap05 : Option Addr) (cp05 : Nat) (hp03 : SlR Rep.str M w0 Ap03 (m_.Vars).length cp03 (m_.Vars)) (hp04 : SlR REP M w0 Ap04 (m_.Rels).length cp04 (m_.Rels)) (hp05 : SlR RQeq M w0 Ap05 (m_.Cons).length cp05 (m_.Cons)) (r : (List Int)) (hg : r41_Labels n m_ = some r) :
    Calls Tryz.prog 15 [.agg #[.int .i64 (m_.Top), .int .i64 (m_.Index), .slice (Ap03) ((m_.Vars).length) (cp03), .slice (Ap04) ((m_.Rels).length) (cp04), .slice (Ap05) ((m_.Cons).length) (cp05)]].toArray w0 (Ret noB w0 fun v w => ∃ (Aa1 : Option Addr), ∃ (ca1 : Nat), v = .slice (Aa1) ((r).length) (ca1) ∧ (SlR (Rep.num .i64) M w Aa1 (r).length ca1 (r))) := by
 unfold r41_Labels at hg
 refine enter M noB func15 rfl rfl hM ?_
 intro a s
 replace s := s.es 101 hp03
 replace s := s.es 102 hp04
 replace s := s.es 103 hp05
 apply wR
 refine l_seq rfl (l_box (zs := [vI (m_.Top), vI (m_.Index), sl Ap03 (m_.Vars) cp03, sl Ap04 (m_.Rels) cp04, sl Ap05 (m_.Cons) cp05]) s 1000 rfl rfl rfl rfl fun b2 a w hb hK s => ?_)
 refine asg s rfl rfl fun a s => ?_
 apply wN
 apply wR
 refine l_seq rfl (l_buildEmpty (sz := 1) s 1100 underlying30 rfl rfl rfl fun b4 a w hbb4 hK s => ?_)
 clear hbb4
 refine asg s rfl rfl fun a s => ?_
 apply wN
 apply wQ
 apply wR
 refine asg s rfl rfl fun a s => ?_
 apply wN
 apply wp_block
 replace s := s.add 106 (rdF (Rep.num .i64) ([]) ([])) (RdAll.nil _ _ _)
 replace s := s.al 105 106 rfl
 replace s := s.pk [(1000, 1000), (700104, 1100)] (by decide)
 refine c_loop (σ := Nat) (fun m1 a w => ∃ (out_5 : (List Int)) (v_9 : Nat) (A6 : Option Addr) (c7 : Nat) (cs8 : List Value), r41_Labels_L0 n m_ m1 out_5 v_9 = some r ∧ St (⟨Tryz.f15.ntmps, M, noB, w0⟩ : Ctx) [(1, vP b2 0), (3, sl A6 (out_5) c7), (4, vI (((v_9 : Nat) : Int)))] [(1000, Ob.box b2 [vI (m_.Top), vI (m_.Index), sl Ap03 (m_.Vars) cp03, sl Ap04 (m_.Rels) cp04, sl Ap05 (m_.Cons) cp05] 26), (700104, Ob.row (A6) ((out_5).length) (c7) 3 1 (cs8))] [(101, slF Rep.str (Ap03) ((m_.Vars).length) (cp03) (m_.Vars)), (102, slF REP (Ap04) ((m_.Rels).length) (cp04) (m_.Rels)), (103, slF RQeq (Ap05) ((m_.Cons).length) (cp05) (m_.Cons)), (105, rdF (Rep.num .i64) (cs8) (out_5))] a w) (fun m1 => m1) n ⟨([]), (0), (some ⟨b4, 0, none⟩), (0), ([]), hg, (s.sb rfl rfl rfl)⟩ ?_
 clear s a; rintro m1 a w ⟨out_5, v_9, A6, c7, cs8, hg, s⟩
 rcases m1 with _ | m1
 ·rw [r41_Labels_L0] at hg; cases hg
 rw [r41_Labels_L0] at hg
 apply wQ
 apply wR
 refine mv s rfl rfl fun a s => ?_
 refine qq s rfl (y_boxField (o' := 2) s rfl underlying26 rfl rfl rfl) fun a s => ?_
 refine qq s rfl (y_loadBox1 (kk := 1000) s rfl rfl rfl underlying22 rfl) fun a s => ?_
 refine qq s rfl (y_lenSlice s rfl underlying22) fun a s => ?_
 refine qq s rfl (y_lssN (i := v_9) (j := ((m_.Vars).length)) s rfl rfl) fun a s => ?_
 apply wN
 refine c_dec s rfl (fun hc10 => ?_) (fun hc10 => ?_)
 ·replace hg := br_t hg hc10
  have hmx11 := SlR.mx (s.ft 101 rfl)
  apply wp_skip
  apply pN
  apply wQ
  apply wp_block
  apply wR
  refine asg s rfl rfl fun a s => ?_
  apply wN
  apply wQ
  apply wR
  refine asg s rfl rfl fun a s => ?_
  apply wN
  obtain ⟨k12, hg, hk12⟩ := jn_some hg
  refine c_post (fun a w => ∃ (is_13 : Bool), k12 is_13 = some r ∧ St (⟨Tryz.f15.ntmps, M, noB, w0⟩ : Ctx) [(1, vP b2 0), (3, sl A6 (out_5) c7), (4, vI (((v_9 : Nat) : Int))), (5, .bool (is_13))] [(1000, Ob.box b2 [vI (m_.Top), vI (m_.Index), sl Ap03 (m_.Vars) cp03, sl Ap04 (m_.Rels) cp04, sl Ap05 (m_.Cons) cp05] 26), (700104, Ob.row (A6) ((out_5).length) (c7) 3 1 (cs8))] [(101, slF Rep.str (Ap03) ((m_.Vars).length) (cp03) (m_.Vars)), (102, slF REP (Ap04) ((m_.Rels).length) (cp04) (m_.Rels)), (103, slF RQeq (Ap05) ((m_.Cons).length) (cp05) (m_.Cons)), (105, rdF (Rep.num .i64) (cs8) (out_5))] a w) ?_ ?_
  ·apply wp_block
   refine c_loop (σ := Nat) (fun m2 a w => ∃ (is_14 : Bool) (i_15 : Nat), r41_Labels_L1 n m_ v_9 k12 m2 is_14 i_15 = some r ∧ St (⟨Tryz.f15.ntmps, M, noB, w0⟩ : Ctx) [(1, vP b2 0), (3, sl A6 (out_5) c7), (4, vI (((v_9 : Nat) : Int))), (5, .bool (is_14)), (6, vI (((i_15 : Nat) : Int)))] [(1000, Ob.box b2 [vI (m_.Top), vI (m_.Index), sl Ap03 (m_.Vars) cp03, sl Ap04 (m_.Rels) cp04, sl Ap05 (m_.Cons) cp05] 26), (700104, Ob.row (A6) ((out_5).length) (c7) 3 1 (cs8))] [(101, slF Rep.str (Ap03) ((m_.Vars).length) (cp03) (m_.Vars)), (102, slF REP (Ap04) ((m_.Rels).length) (cp04) (m_.Rels)), (103, slF RQeq (Ap05) ((m_.Cons).length) (cp05) (m_.Cons)), (105, rdF (Rep.num .i64) (cs8) (out_5))] a w) (fun m2 => m2) n ⟨(false), (0), hg, (s.sb rfl rfl rfl)⟩ ?_
   clear s a; rintro m2 a w ⟨is_14, i_15, hg, s⟩
   rcases m2 with _ | m2
   ·rw [r41_Labels_L1] at hg; cases hg
   rw [r41_Labels_L1] at hg
   apply wQ
   apply wR
   refine mv s rfl rfl fun a s => ?_
   refine qq s rfl (y_boxField (o' := 3) s rfl underlying26 rfl rfl rfl) fun a s => ?_
   refine qq s rfl (y_loadBox1 (kk := 1000) s rfl rfl rfl underlying23 rfl) fun a s => ?_
   refine qq s rfl (y_lenSlice s rfl underlying23) fun a s => ?_
   refine qq s rfl (y_lssN (i := i_15) (j := ((m_.Rels).length)) s rfl rfl) fun a s => ?_
   apply wN
   refine c_dec s rfl (fun hc16 => ?_) (fun hc16 => ?_)
   ·replace hg := br_t hg hc16
    have hmx17 := SlR.mx (s.ft 102 rfl)
    apply wp_skip
    apply pN
    apply wQ
    apply wp_block
    rcases Bool.eq_false_or_eq_true (is_14) with hs18 | hs18
    ·replace hg := br_t hg hs18
     apply wL
     refine qq s rfl (yl_b (y_move s rfl) hs18) fun a s => ?_
     refine mv s rfl rfl fun a s => ?_
     refine gn s rfl fun a s => ?_
     refine gn s rfl fun a s => ?_
     refine gn s rfl fun a s => ?_
     refine gn s rfl fun a s => ?_
     refine gn s rfl fun a s => ?_
     refine gn s rfl fun a s => ?_
     refine gn s rfl fun a s => ?_
     refine gn s rfl fun a s => ?_
     refine qq s rfl (y_pick_t s rfl rfl) fun a s => ?_
     refine asg s rfl rfl fun a s => ?_
     apply wO
     refine p_inN ?_
     apply pN
     apply wL
     refine mv s rfl rfl fun a s => ?_
     refine qq s rfl (y_addN (i := i_15) (j := 1) s rfl rfl (in64.2 (by omega))) fun a s => ?_
     refine asg s rfl rfl fun a s => ?_
     apply wN
     exact ⟨m2, Nat.lt_succ_self _, ⟨(true), (i_15 + 1), hg, (s.sb rfl rfl rfl)⟩⟩
    replace hg := br_n hg hs18
    obtain ⟨x20, hx20, hg⟩ := bind_some hg
    apply wL
    refine qq s rfl (yl_b (y_move s rfl) hs18) fun a s => ?_
    refine mv s rfl rfl fun a s => ?_
    refine gy s rfl (y_boxField (o' := 3) s rfl underlying26 rfl rfl rfl) fun a s => ?_
    refine gy s rfl (y_loadBox1 (kk := 1000) s rfl rfl rfl underlying23 rfl) fun a s => ?_
    refine gm s rfl rfl fun a s => ?_
    obtain ⟨p22, hep22, hpp22⟩ := SlR.elemX (s.ft 102 rfl) hx20
    refine gy s rfl (y_elem (sz := 3) (i := i_15) s rfl rfl underlying23 rfl hep22 rfl (lt_of_get hx20)) fun a s => ?_
    refine gy s rfl (y_ptrField (o' := 1) s rfl underlying43 rfl rfl rfl) fun a s => ?_
    obtain ⟨hlq23, hmq23, csq23, hdq23, hcq23⟩ := hpp22
    obtain ⟨Aq233, cq233, rfl, lq231, hq233⟩ := REP.open hdq23
    replace s := s.ns 108 hq233
    refine gy s rfl (y_ldp1 s rfl hlq23 hmq23 (hcq23 1 _ rfl) underlying3 rfl) fun a s => ?_
    refine gm s rfl rfl fun a s => ?_
    refine gy s rfl (y_eql s rfl rfl) fun a s => ?_
    refine qq s rfl (y_pick_f s rfl rfl) fun a s => ?_
    refine asg s rfl rfl fun a s => ?_
    apply wO
    refine p_inN ?_
    apply pN
    apply wL
    refine mv s rfl rfl fun a s => ?_
    refine qq s rfl (y_addN (i := i_15) (j := 1) s rfl rfl (in64.2 (by omega))) fun a s => ?_
    refine asg s rfl rfl fun a s => ?_
    apply wN
    exact ⟨m2, Nat.lt_succ_self _, ⟨(decide (x20.Label = ((v_9 : Nat) : Int))), (i_15 + 1), hg, (s.sb rfl rfl rfl)⟩⟩
   replace hg := br_f hg hc16
   apply wp_exit
   refine p_then ?_
   refine p_then ?_
   refine p_in ?_
   apply pN
   exact ⟨(is_14), hg, (s.sb rfl rfl rfl)⟩
  clear s a; rintro a w ⟨is_13, hg, s⟩
  subst hk12
  apply wR
  refine mv s rfl rfl fun a s => ?_
  apply wN
  refine c_cond s rfl (fun hc24 => ?_) (fun hc24 => ?_)
  ·replace hg := br_t hg hc24
   obtain ⟨hk26, hg⟩ := chk_some hg
   apply wL
   refine mv s rfl rfl fun a s => ?_
   refine mv s rfl rfl fun a s => ?_
   refine l_seq rfl (l_buildDense (sz := 1) s 2102 rfl rfl rfl underlying30 rfl rfl rfl rfl rfl rfl rfl fun b29 a w hbb29 hK s => ?_)
   clear hbb29
   replace s := s.add 111 (rdF (Rep.num .i64) (cellsOfL [vI (((v_9 : Nat) : Int))]) ([((v_9 : Nat) : Int)])) (RdAll.cons (by exact rfl) (RdAll.nil _ _ _))
   have hs31 := row_src (s.wd.holds 2102 _ rfl) (RdAll.one (s.ft 111 rfl))
   refine l_seq rfl (l_append (sz := 1) (by_ := 8) (N := (out_5 ++ [((v_9 : Nat) : Int)]).length) (ys := cs8 ++ (cellsOfL [vI (((v_9 : Nat) : Int))])) s 700104 rfl rfl rfl underlying30 rfl rfl rfl rfl rfl hs31 (by simp) rfl (by have hr := hk26; clear hg; first | omega | (simp only [List.length_append, List.length_cons, List.length_nil] at hr ⊢; omega) | (simp at hr ⊢; omega)) (by have hr := hk26; clear hg; first | omega | (simp only [List.length_append, List.length_cons, List.length_nil] at hr ⊢; omega) | (simp at hr ⊢; omega)) rfl fun Aq30 cq30 a w hA hK s => ?_)
   replace s := s.add 112 (rdF (Rep.num .i64) (cs8 ++ (cellsOfL [vI (((v_9 : Nat) : Int))])) (out_5 ++ [((v_9 : Nat) : Int)])) (RdAll.append (s.ft 105 rfl) (s.ft 111 rfl))
   refine asg s rfl rfl fun a s => ?_
   apply wO
   refine p_inN ?_
   apply pN
   apply wL
   refine mv s rfl rfl fun a s => ?_
   refine qq s rfl (y_addN (i := v_9) (j := 1) s rfl rfl (in64.2 (by omega))) fun a s => ?_
   refine asg s rfl rfl fun a s => ?_
   apply wN
   replace s := s.add 105 (rdF (Rep.num .i64) (cs8 ++ (cellsOfL [vI (((v_9 : Nat) : Int))])) (out_5 ++ [((v_9 : Nat) : Int)])) (s.ft 112 rfl)
   exact ⟨m1, Nat.lt_succ_self _, ⟨(out_5 ++ [((v_9 : Nat) : Int)]), (v_9 + 1), (Aq30), (cq30), (cs8 ++ (cellsOfL [vI (((v_9 : Nat) : Int))])), hg, (s.sb rfl rfl rfl)⟩⟩
  replace hg := br_n hg hc24
  apply wp_skip
  refine p_inN ?_
  apply pN
  apply wL
  refine mv s rfl rfl fun a s => ?_
  refine qq s rfl (y_addN (i := v_9) (j := 1) s rfl rfl (in64.2 (by omega))) fun a s => ?_
  refine asg s rfl rfl fun a s => ?_
  apply wN
  replace s := s.al 105 105 rfl
  exact ⟨m1, Nat.lt_succ_self _, ⟨(out_5), (v_9 + 1), (A6), (c7), (cs8), hg, (s.sb rfl rfl rfl)⟩⟩
 replace hg := br_f hg hc10
 apply wp_exit
 refine p_then ?_
 refine p_then ?_
 refine p_in ?_
 apply pN
 apply wR
 refine mv s rfl rfl fun a s => ?_
 refine asg s rfl rfl fun a s => ?_
 apply wN
 apply wp_ret
 obtain rfl := Option.some.inj hg
 refine fin1 (fn := Tryz.f15) s rfl (r_tmp s rfl) ?_
 exact ⟨(A6), (c7), rfl, (s.rowOut (R := (Rep.num .i64)) (kk := 700104) rfl rfl (s.ft 105 rfl))⟩
set_option maxHeartbeats 400000 in
theorem c_r41_Has (n : Nat) (M : Bs) (w0 : World) (hM : ∀ b, M b → b < w0.heap.size) (l_ : (List Int)) (Ap01 : Option Addr) (cp01 : Nat) (hp01 : SlR (Rep.num .i64) M w0 Ap01 (l_).length cp01 (l_)) (n_ : Int) (r : Bool) (hg : r41_Has n l_ n_ = some r) :
    Calls Tryz.prog 23 [.slice (Ap01) ((l_).length) (cp01), .int .i64 (n_)].toArray w0 (Ret noB w0 fun v w => v = .bool (r)) := by
 unfold r41_Has at hg
 refine enter M noB func23 rfl rfl hM ?_
 intro a s
 replace s := s.es 101 hp01
 apply wR
 refine asg s rfl rfl fun a s => ?_
 apply wN
 apply wQ
 apply wR
 refine asg s rfl rfl fun a s => ?_
 apply wN
 apply wp_block
 refine c_loop (σ := Nat) (fun m1 a w => ∃ (i_1 : Nat), r41_Has_L0 n l_ n_ m1 i_1 = some r ∧ St (⟨Tryz.f23.ntmps, M, noB, w0⟩ : Ctx) [(0, sl Ap01 (l_) cp01), (1, vI n_), (5, vI (((i_1 : Nat) : Int)))] [] [(101, slF (Rep.num .i64) (Ap01) ((l_).length) (cp01) (l_))] a w) (fun m1 => m1) n ⟨(0), hg, (s.sb rfl rfl rfl)⟩ ?_
 clear s a; rintro m1 a w ⟨i_1, hg, s⟩
 rcases m1 with _ | m1
 ·rw [r41_Has_L0] at hg; cases hg
 rw [r41_Has_L0] at hg
 apply wQ
 apply wR
 refine mv s rfl rfl fun a s => ?_
 refine mv s rfl rfl fun a s => ?_
 refine qq s rfl (y_lenSlice s rfl underlying30) fun a s => ?_
 refine qq s rfl (y_lssN (i := i_1) (j := ((l_).length)) s rfl rfl) fun a s => ?_
 apply wN
 refine c_dec s rfl (fun hc2 => ?_) (fun hc2 => ?_)
 ·replace hg := br_t hg hc2
  have hmx3 := SlR.mx (s.ft 101 rfl)
  apply wp_skip
  apply pN
  apply wQ
  apply wp_block
  apply wQ
  obtain ⟨x5, hx5, hg⟩ := bind_some hg
  apply wL
  refine mv s rfl rfl fun a s => ?_
  refine mv s rfl rfl fun a s => ?_
  obtain ⟨p7, hep7, hpp7⟩ := SlR.elemX (s.ft 101 rfl) hx5
  refine qq s rfl (y_elem (sz := 1) (i := i_1) s rfl rfl underlying30 rfl hep7 rfl (lt_of_get hx5)) fun a s => ?_
  obtain ⟨hlq8, hmq8, csq8, hdq8, hcq8⟩ := hpp7
  obtain rfl := hdq8
  refine qq s rfl (y_ldp1 s rfl hlq8 hmq8 (hcq8 0 _ rfl) underlying3 rfl) fun a s => ?_
  refine mv s rfl rfl fun a s => ?_
  refine qq s rfl (y_eql s rfl rfl) fun a s => ?_
  apply wN
  refine c_dec s rfl (fun hc9 => ?_) (fun hc9 => ?_)
  ·replace hg := br_t hg hc9
   apply wR
   refine asg s rfl rfl fun a s => ?_
   apply wN
   apply wp_ret
   refine p_inR ?_
   refine p_thenR ?_
   refine p_thenR ?_
   refine p_inR ?_
   refine p_thenR ?_
   obtain rfl := Option.some.inj hg
   refine fin1 (fn := Tryz.f23) s rfl (r_tmp s rfl) ?_
   exact rfl
  replace hg := br_f hg hc9
  apply wp_skip
  refine p_inN ?_
  apply pN
  apply wL
  refine mv s rfl rfl fun a s => ?_
  refine qq s rfl (y_addN (i := i_1) (j := 1) s rfl rfl (in64.2 (by omega))) fun a s => ?_
  refine asg s rfl rfl fun a s => ?_
  apply wN
  exact ⟨m1, Nat.lt_succ_self _, ⟨(i_1 + 1), hg, (s.sb rfl rfl rfl)⟩⟩
 replace hg := br_f hg hc2
 apply wp_exit
 refine p_then ?_
 refine p_then ?_
 refine p_in ?_
 apply pN
 apply wR
 refine asg s rfl rfl fun a s => ?_
 apply wN
 apply wp_ret
 obtain rfl := Option.some.inj hg
 refine fin1 (fn := Tryz.f23) s rfl (r_tmp s rfl) ?_
 exact rfl
set_option maxHeartbeats 400000 in
theorem c_r41_argument (n : Nat) (M : Bs) (w0 : World) (hM : ∀ b, M b → b < w0.heap.size) (m_ : MRS) (Ap03 : Option Addr) (cp03 : Nat) (Ap04 : Option Addr) (cp04 : Nat) (Ap05 : Option Addr) (cp05 : Nat) (hp03 : SlR Rep.str M w0 Ap03 (m_.Vars).length cp03 (m_.Vars)) (hp04 : SlR REP M w0 Ap04 (m_.Rels).length cp04 (m_.Rels)) (hp05 : SlR RQeq M w0 Ap05 (m_.Cons).length cp05 (m_.Cons)) (v_ : Int) (r : Bool) (hg : r41_argument n m_ v_ = some r) :
    Calls Tryz.prog 31 [.agg #[.int .i64 (m_.Top), .int .i64 (m_.Index), .slice (Ap03) ((m_.Vars).length) (cp03), .slice (Ap04) ((m_.Rels).length) (cp04), .slice (Ap05) ((m_.Cons).length) (cp05)], .int .i64 (v_)].toArray w0 (Ret noB w0 fun v w => v = .bool (r)) := by
 unfold r41_argument at hg
 refine enter M noB func31 rfl rfl hM ?_
 intro a s
 replace s := s.es 101 hp03
 replace s := s.es 102 hp04
 replace s := s.es 103 hp05
 apply wR
 refine l_seq rfl (l_box (zs := [vI (m_.Top), vI (m_.Index), sl Ap03 (m_.Vars) cp03, sl Ap04 (m_.Rels) cp04, sl Ap05 (m_.Cons) cp05]) s 1000 rfl rfl rfl rfl fun b2 a w hb hK s => ?_)
 refine asg s rfl rfl fun a s => ?_
 apply wN
 apply wQ
 apply wR
 refine qq s rfl (y_boxField (o' := 0) s rfl underlying26 rfl rfl rfl) fun a s => ?_
 refine qq s rfl (y_loadBox1 (kk := 1000) s rfl rfl rfl underlying3 rfl) fun a s => ?_
 refine mv s rfl rfl fun a s => ?_
 refine qq s rfl (y_eql s rfl rfl) fun a s => ?_
 apply wN
 refine c_dec s rfl (fun hc3 => ?_) (fun hc3 => ?_)
 ·replace hg := br_t hg hc3
  apply wR
  refine asg s rfl rfl fun a s => ?_
  apply wN
  apply wp_ret
  refine p_thenR ?_
  obtain rfl := Option.some.inj hg
  refine fin1 (fn := Tryz.f31) s rfl (r_tmp s rfl) ?_
  exact rfl
 replace hg := br_f hg hc3
 apply wp_skip
 apply pN
 apply wQ
 apply wR
 refine asg s rfl rfl fun a s => ?_
 apply wN
 apply wp_block
 refine c_loop (σ := Nat) (fun m1 a w => ∃ (i_4 : Nat), r41_argument_L0 n m_ v_ m1 i_4 = some r ∧ St (⟨Tryz.f31.ntmps, M, noB, w0⟩ : Ctx) [(1, vI v_), (2, vP b2 0), (5, vI (((i_4 : Nat) : Int)))] [(1000, Ob.box b2 [vI (m_.Top), vI (m_.Index), sl Ap03 (m_.Vars) cp03, sl Ap04 (m_.Rels) cp04, sl Ap05 (m_.Cons) cp05] 26)] [(101, slF Rep.str (Ap03) ((m_.Vars).length) (cp03) (m_.Vars)), (102, slF REP (Ap04) ((m_.Rels).length) (cp04) (m_.Rels)), (103, slF RQeq (Ap05) ((m_.Cons).length) (cp05) (m_.Cons))] a w) (fun m1 => m1) n ⟨(0), hg, (s.sb rfl rfl rfl)⟩ ?_
 clear s a; rintro m1 a w ⟨i_4, hg, s⟩
 rcases m1 with _ | m1
 ·rw [r41_argument_L0] at hg; cases hg
 rw [r41_argument_L0] at hg
 apply wQ
 apply wR
 refine mv s rfl rfl fun a s => ?_
 refine qq s rfl (y_boxField (o' := 3) s rfl underlying26 rfl rfl rfl) fun a s => ?_
 refine qq s rfl (y_loadBox1 (kk := 1000) s rfl rfl rfl underlying23 rfl) fun a s => ?_
 refine qq s rfl (y_lenSlice s rfl underlying23) fun a s => ?_
 refine qq s rfl (y_lssN (i := i_4) (j := ((m_.Rels).length)) s rfl rfl) fun a s => ?_
 apply wN
 refine c_dec s rfl (fun hc5 => ?_) (fun hc5 => ?_)
 ·replace hg := br_t hg hc5
  have hmx6 := SlR.mx (s.ft 102 rfl)
  apply wp_skip
  apply pN
  apply wQ
  obtain ⟨k7, hg, hk7⟩ := jn_some hg
  refine c_post (fun a w => k7 = some r ∧ St (⟨Tryz.f31.ntmps, M, noB, w0⟩ : Ctx) [(1, vI v_), (2, vP b2 0), (5, vI (((i_4 : Nat) : Int)))] [(1000, Ob.box b2 [vI (m_.Top), vI (m_.Index), sl Ap03 (m_.Vars) cp03, sl Ap04 (m_.Rels) cp04, sl Ap05 (m_.Cons) cp05] 26)] [(101, slF Rep.str (Ap03) ((m_.Vars).length) (cp03) (m_.Vars)), (102, slF REP (Ap04) ((m_.Rels).length) (cp04) (m_.Rels)), (103, slF RQeq (Ap05) ((m_.Cons).length) (cp05) (m_.Cons))] a w) ?_ ?_
  ·apply wp_block
   apply wR
   refine asg s rfl rfl fun a s => ?_
   apply wN
   apply wp_block
   refine c_loop (σ := Nat) (fun m2 a w => ∃ (k_8 : Nat), r41_argument_L1 n m_ v_ i_4 k7 m2 k_8 = some r ∧ St (⟨Tryz.f31.ntmps, M, noB, w0⟩ : Ctx) [(1, vI v_), (2, vP b2 0), (5, vI (((i_4 : Nat) : Int))), (6, vI (((k_8 : Nat) : Int)))] [(1000, Ob.box b2 [vI (m_.Top), vI (m_.Index), sl Ap03 (m_.Vars) cp03, sl Ap04 (m_.Rels) cp04, sl Ap05 (m_.Cons) cp05] 26)] [(101, slF Rep.str (Ap03) ((m_.Vars).length) (cp03) (m_.Vars)), (102, slF REP (Ap04) ((m_.Rels).length) (cp04) (m_.Rels)), (103, slF RQeq (Ap05) ((m_.Cons).length) (cp05) (m_.Cons))] a w) (fun m2 => m2) n ⟨(0), hg, (s.sb rfl rfl rfl)⟩ ?_
   clear s a; rintro m2 a w ⟨k_8, hg, s⟩
   rcases m2 with _ | m2
   ·rw [r41_argument_L1] at hg; cases hg
   rw [r41_argument_L1] at hg
   apply wQ
   apply wQ
   obtain ⟨x10, hx10, hg⟩ := bind_some hg
   apply wL
   refine mv s rfl rfl fun a s => ?_
   refine qq s rfl (y_boxField (o' := 3) s rfl underlying26 rfl rfl rfl) fun a s => ?_
   refine qq s rfl (y_loadBox1 (kk := 1000) s rfl rfl rfl underlying23 rfl) fun a s => ?_
   refine mv s rfl rfl fun a s => ?_
   obtain ⟨p12, hep12, hpp12⟩ := SlR.elemX (s.ft 102 rfl) hx10
   refine qq s rfl (y_elem (sz := 3) (i := i_4) s rfl rfl underlying23 rfl hep12 rfl (lt_of_get hx10)) fun a s => ?_
   refine qq s rfl (y_ptrField (o' := 2) s rfl underlying43 rfl rfl rfl) fun a s => ?_
   obtain ⟨hlq13, hmq13, csq13, hdq13, hcq13⟩ := hpp12
   obtain ⟨Aq133, cq133, rfl, lq131, hq133⟩ := REP.open hdq13
   replace s := s.ns 105 hq133
   refine qq s rfl (y_ldp1 s rfl hlq13 hmq13 (hcq13 2 _ rfl) underlying41 rfl) fun a s => ?_
   refine qq s rfl (y_lenSlice s rfl underlying41) fun a s => ?_
   refine qq s rfl (y_lssN (i := k_8) (j := ((x10.Args).length)) s rfl rfl) fun a s => ?_
   apply wN
   refine c_dec s rfl (fun hc14 => ?_) (fun hc14 => ?_)
   ·replace hg := br_t hg hc14
    have hmx15 := SlR.mx (s.ft 105 rfl)
    apply wp_skip
    apply pN
    apply wQ
    apply wp_block
    apply wQ
    obtain ⟨x19, hx19, hg⟩ := bind_some hg
    apply wL
    refine qq s rfl (y_boxField (o' := 3) s rfl underlying26 rfl rfl rfl) fun a s => ?_
    refine qq s rfl (y_loadBox1 (kk := 1000) s rfl rfl rfl underlying23 rfl) fun a s => ?_
    refine mv s rfl rfl fun a s => ?_
    obtain ⟨p21, hep21, hpp21⟩ := SlR.elemX (s.ft 102 rfl) hx10
    refine qq s rfl (y_elem (sz := 3) (i := i_4) s rfl rfl underlying23 rfl hep21 rfl (lt_of_get hx10)) fun a s => ?_
    refine qq s rfl (y_ptrField (o' := 2) s rfl underlying43 rfl rfl rfl) fun a s => ?_
    obtain ⟨hlq22, hmq22, csq22, hdq22, hcq22⟩ := hpp21
    obtain ⟨Aq223, cq223, rfl, lq221, hq223⟩ := REP.open hdq22
    replace s := s.ns 107 hq223
    refine qq s rfl (y_ldp1 s rfl hlq22 hmq22 (hcq22 2 _ rfl) underlying41 rfl) fun a s => ?_
    refine mv s rfl rfl fun a s => ?_
    obtain ⟨p23, hep23, hpp23⟩ := SlR.elemX (s.ft 107 rfl) hx19
    refine qq s rfl (y_elem (sz := 2) (i := k_8) s rfl rfl underlying41 rfl hep23 rfl (lt_of_get hx19)) fun a s => ?_
    refine qq s rfl (y_ptrField (o' := 1) s rfl underlying45 rfl rfl rfl) fun a s => ?_
    obtain ⟨hlq24, hmq24, csq24, hdq24, hcq24⟩ := hpp23
    obtain ⟨rfl, lq241⟩ := RArg.open hdq24
    refine qq s rfl (y_ldp1 s rfl hlq24 hmq24 (hcq24 1 _ rfl) underlying3 rfl) fun a s => ?_
    refine mv s rfl rfl fun a s => ?_
    refine qq s rfl (y_eql s rfl rfl) fun a s => ?_
    apply wN
    refine c_dec s rfl (fun hc25 => ?_) (fun hc25 => ?_)
    ·replace hg := br_t hg hc25
     apply wR
     refine asg s rfl rfl fun a s => ?_
     apply wN
     apply wp_ret
     refine p_inR ?_
     refine p_thenR ?_
     refine p_thenR ?_
     refine p_inR ?_
     refine p_inR ?_
     refine p_thenR ?_
     refine p_thenR ?_
     refine p_inR ?_
     refine p_thenR ?_
     obtain rfl := Option.some.inj hg
     refine fin1 (fn := Tryz.f31) s rfl (r_tmp s rfl) ?_
     exact rfl
    replace hg := br_f hg hc25
    apply wp_skip
    refine p_inN ?_
    apply pN
    apply wL
    refine mv s rfl rfl fun a s => ?_
    refine qq s rfl (y_addN (i := k_8) (j := 1) s rfl rfl (in64.2 (by omega))) fun a s => ?_
    refine asg s rfl rfl fun a s => ?_
    apply wN
    exact ⟨m2, Nat.lt_succ_self _, ⟨(k_8 + 1), hg, (s.sb rfl rfl rfl)⟩⟩
   replace hg := br_f hg hc14
   apply wp_exit
   refine p_then ?_
   refine p_then ?_
   refine p_in ?_
   refine p_inN ?_
   apply pN
   exact ⟨hg, (s.sb rfl rfl rfl)⟩
  clear s a; rintro a w ⟨hg, s⟩
  subst hk7
  apply wL
  refine mv s rfl rfl fun a s => ?_
  refine qq s rfl (y_addN (i := i_4) (j := 1) s rfl rfl (in64.2 (by omega))) fun a s => ?_
  refine asg s rfl rfl fun a s => ?_
  apply wN
  exact ⟨m1, Nat.lt_succ_self _, ⟨(i_4 + 1), hg, (s.sb rfl rfl rfl)⟩⟩
 replace hg := br_f hg hc5
 apply wp_exit
 refine p_then ?_
 refine p_then ?_
 refine p_in ?_
 apply pN
 apply wR
 refine asg s rfl rfl fun a s => ?_
 apply wN
 apply wp_ret
 obtain rfl := Option.some.inj hg
 refine fin1 (fn := Tryz.f31) s rfl (r_tmp s rfl) ?_
 exact rfl
set_option maxHeartbeats 400000 in
theorem c_r41_Holes (n : Nat) (M : Bs) (w0 : World) (hM : ∀ b, M b → b < w0.heap.size) (m_ : MRS) (Ap03 : Option Addr) (cp03 : Nat) (Ap04 : Option Addr) (cp04 : Nat) (Ap05 : Option Addr) (cp05 : Nat) (hp03 : SlR Rep.str M w0 Ap03 (m_.Vars).length cp03 (m_.Vars)) (hp04 : SlR REP M w0 Ap04 (m_.Rels).length cp04 (m_.Rels)) (hp05 : SlR RQeq M w0 Ap05 (m_.Cons).length cp05 (m_.Cons)) (r : (List Int)) (hg : r41_Holes n m_ = some r) :
    Calls Tryz.prog 13 [.agg #[.int .i64 (m_.Top), .int .i64 (m_.Index), .slice (Ap03) ((m_.Vars).length) (cp03), .slice (Ap04) ((m_.Rels).length) (cp04), .slice (Ap05) ((m_.Cons).length) (cp05)]].toArray w0 (Ret noB w0 fun v w => ∃ (Aa1 : Option Addr), ∃ (ca1 : Nat), v = .slice (Aa1) ((r).length) (ca1) ∧ (SlR (Rep.num .i64) M w Aa1 (r).length ca1 (r))) := by
 unfold r41_Holes at hg
 refine enter M noB func13 rfl rfl hM ?_
 intro a s
 replace s := s.es 101 hp03
 replace s := s.es 102 hp04
 replace s := s.es 103 hp05
 apply wR
 refine l_seq rfl (l_box (zs := [vI (m_.Top), vI (m_.Index), sl Ap03 (m_.Vars) cp03, sl Ap04 (m_.Rels) cp04, sl Ap05 (m_.Cons) cp05]) s 1000 rfl rfl rfl rfl fun b2 a w hb hK s => ?_)
 refine asg s rfl rfl fun a s => ?_
 apply wN
 apply wQ
 obtain ⟨r3, hr3, hg⟩ := bind_some hg
 apply wL
 refine qq s rfl (y_loadAll (kk := 1000) s rfl rfl underlying26 rfl rfl) fun a s => ?_
 refine l_seq rfl (l_call (cap := []) s rfl func15 rfl (by kernel_rfl) rfl rfl (c_r41_Labels n _ _ s.lt m_ (Ap03) (cp03) (Ap04) (cp04) (Ap05) (cp05) (s.ft 101 rfl) (s.ft 102 rfl) (s.ft 103 rfl) r3 hr3) fun v6 a w hK hp s => ?_)
 obtain ⟨Au7a1, cu7a1, rfl, hu7a1⟩ := hp
 replace s := s.ns 105 hu7a1
 refine asg s rfl rfl fun a s => ?_
 apply wN
 apply wR
 refine l_seq rfl (l_buildEmpty (sz := 1) s 1200 underlying30 rfl rfl rfl fun b9 a w hbb9 hK s => ?_)
 clear hbb9
 refine asg s rfl rfl fun a s => ?_
 apply wN
 apply wQ
 apply wR
 refine asg s rfl rfl fun a s => ?_
 apply wN
 apply wp_block
 replace s := s.add 108 (rdF (Rep.num .i64) ([]) ([])) (RdAll.nil _ _ _)
 replace s := s.al 107 108 rfl
 replace s := s.pk [(1000, 1000), (700106, 1200)] (by decide)
 refine c_loop (σ := Nat) (fun m1 a w => ∃ (out_10 : (List Int)) (v_14 : Nat) (A11 : Option Addr) (c12 : Nat) (cs13 : List Value), r41_Holes_L0 n m_ r3 m1 out_10 v_14 = some r ∧ St (⟨Tryz.f13.ntmps, M, noB, w0⟩ : Ctx) [(1, vP b2 0), (3, sl Au7a1 (r3) cu7a1), (4, sl A11 (out_10) c12), (5, vI (((v_14 : Nat) : Int)))] [(1000, Ob.box b2 [vI (m_.Top), vI (m_.Index), sl Ap03 (m_.Vars) cp03, sl Ap04 (m_.Rels) cp04, sl Ap05 (m_.Cons) cp05] 26), (700106, Ob.row (A11) ((out_10).length) (c12) 3 1 (cs13))] [(101, slF Rep.str (Ap03) ((m_.Vars).length) (cp03) (m_.Vars)), (102, slF REP (Ap04) ((m_.Rels).length) (cp04) (m_.Rels)), (103, slF RQeq (Ap05) ((m_.Cons).length) (cp05) (m_.Cons)), (105, slF (Rep.num .i64) (Au7a1) ((r3).length) (cu7a1) (r3)), (107, rdF (Rep.num .i64) (cs13) (out_10))] a w) (fun m1 => m1) n ⟨([]), (0), (some ⟨b9, 0, none⟩), (0), ([]), hg, (s.sb rfl rfl rfl)⟩ ?_
 clear s a; rintro m1 a w ⟨out_10, v_14, A11, c12, cs13, hg, s⟩
 rcases m1 with _ | m1
 ·rw [r41_Holes_L0] at hg; cases hg
 rw [r41_Holes_L0] at hg
 apply wQ
 apply wR
 refine mv s rfl rfl fun a s => ?_
 refine qq s rfl (y_boxField (o' := 2) s rfl underlying26 rfl rfl rfl) fun a s => ?_
 refine qq s rfl (y_loadBox1 (kk := 1000) s rfl rfl rfl underlying22 rfl) fun a s => ?_
 refine qq s rfl (y_lenSlice s rfl underlying22) fun a s => ?_
 refine qq s rfl (y_lssN (i := v_14) (j := ((m_.Vars).length)) s rfl rfl) fun a s => ?_
 apply wN
 refine c_dec s rfl (fun hc15 => ?_) (fun hc15 => ?_)
 ·replace hg := br_t hg hc15
  have hmx16 := SlR.mx (s.ft 101 rfl)
  apply wp_skip
  apply pN
  apply wQ
  apply wp_block
  apply wQ
  obtain ⟨k17, hg, hk17⟩ := jn_some hg
  refine c_post (fun a w => ∃ (t_18 : Bool), k17 t_18 = some r ∧ St (⟨Tryz.f13.ntmps, M, noB, w0⟩ : Ctx) [(1, vP b2 0), (3, sl Au7a1 (r3) cu7a1), (4, sl A11 (out_10) c12), (5, vI (((v_14 : Nat) : Int))), (32, .bool (t_18))] [(1000, Ob.box b2 [vI (m_.Top), vI (m_.Index), sl Ap03 (m_.Vars) cp03, sl Ap04 (m_.Rels) cp04, sl Ap05 (m_.Cons) cp05] 26), (700106, Ob.row (A11) ((out_10).length) (c12) 3 1 (cs13))] [(101, slF Rep.str (Ap03) ((m_.Vars).length) (cp03) (m_.Vars)), (102, slF REP (Ap04) ((m_.Rels).length) (cp04) (m_.Rels)), (103, slF RQeq (Ap05) ((m_.Cons).length) (cp05) (m_.Cons)), (105, slF (Rep.num .i64) (Au7a1) ((r3).length) (cu7a1) (r3)), (107, rdF (Rep.num .i64) (cs13) (out_10))] a w) ?_ ?_
  ·obtain ⟨x20, hx20, hg⟩ := bind_some hg
   rcases Decidable.em ((x20 : List UInt8) = [104]) with hs22 | hs22
   ·have hs22e := decide_eq_true hs22
    replace hg := br_t hg hs22
    obtain ⟨r23, hr23, hg⟩ := bind_some hg
    rcases Bool.eq_false_or_eq_true (r23) with hs26 | hs26
    ·replace hg := br_t hg hs26
     obtain ⟨r27, hr27, hg⟩ := bind_some hg
     apply wL
     refine qq s rfl (y_boxField (o' := 2) s rfl underlying26 rfl rfl rfl) fun a s => ?_
     refine qq s rfl (y_loadBox1 (kk := 1000) s rfl rfl rfl underlying22 rfl) fun a s => ?_
     refine mv s rfl rfl fun a s => ?_
     obtain ⟨p30, hep30, hpp30⟩ := SlR.elemX (s.ft 101 rfl) hx20
     refine qq s rfl (y_elem (sz := 1) (i := v_14) s rfl rfl underlying22 rfl hep30 rfl (lt_of_get hx20)) fun a s => ?_
     obtain ⟨hlq31, hmq31, csq31, hdq31, hcq31⟩ := hpp30
     obtain ⟨rfl, lq311⟩ := hdq31
     refine qq s rfl (y_ldp1 s rfl hlq31 hmq31 (hcq31 0 _ rfl) underlying9 rfl) fun a s => ?_
     refine qq s rfl (yl_b (y_seq s rfl rfl) hs22e) fun a s => ?_
     refine mv s rfl rfl fun a s => ?_
     refine gy s rfl (y_loadAll (kk := 1000) s rfl rfl underlying26 rfl rfl) fun a s => ?_
     refine gm s rfl rfl fun a s => ?_
     refine gl s rfl (l_call (cap := []) s rfl func31 rfl (by kernel_rfl) rfl rfl (c_r41_argument n _ _ s.lt m_ (Ap03) (cp03) (Ap04) (cp04) (Ap05) (cp05) (s.ft 101 rfl) (s.ft 102 rfl) (s.ft 103 rfl) ((v_14 : Nat) : Int) r23 hr23) fun v32 a w hK hp s => ?_)
     obtain rfl := hp.trans (congrArg Value.bool hs26)
     refine qq s rfl (y_pick_t s rfl rfl) fun a s => ?_
     refine mv s rfl rfl fun a s => ?_
     refine gm s rfl rfl fun a s => ?_
     refine gm s rfl rfl fun a s => ?_
     refine gl s rfl (l_call (cap := []) s rfl func23 rfl (by kernel_rfl) rfl rfl (c_r41_Has n _ _ s.lt r3 (Au7a1) (cu7a1) (s.ft 105 rfl) ((v_14 : Nat) : Int) r27 hr27) fun v34 a w hK hp s => ?_)
     obtain rfl := hp
     refine gy s rfl (y_not s rfl) fun a s => ?_
     refine qq s rfl (y_pick_t s rfl rfl) fun a s => ?_
     apply wN
     exact ⟨(!(r27)), hg, (s.sb rfl rfl rfl)⟩
    replace hg := br_n hg hs26
    apply wL
    refine qq s rfl (y_boxField (o' := 2) s rfl underlying26 rfl rfl rfl) fun a s => ?_
    refine qq s rfl (y_loadBox1 (kk := 1000) s rfl rfl rfl underlying22 rfl) fun a s => ?_
    refine mv s rfl rfl fun a s => ?_
    obtain ⟨p36, hep36, hpp36⟩ := SlR.elemX (s.ft 101 rfl) hx20
    refine qq s rfl (y_elem (sz := 1) (i := v_14) s rfl rfl underlying22 rfl hep36 rfl (lt_of_get hx20)) fun a s => ?_
    obtain ⟨hlq37, hmq37, csq37, hdq37, hcq37⟩ := hpp36
    obtain ⟨rfl, lq371⟩ := hdq37
    refine qq s rfl (y_ldp1 s rfl hlq37 hmq37 (hcq37 0 _ rfl) underlying9 rfl) fun a s => ?_
    refine qq s rfl (yl_b (y_seq s rfl rfl) hs22e) fun a s => ?_
    refine mv s rfl rfl fun a s => ?_
    refine gy s rfl (y_loadAll (kk := 1000) s rfl rfl underlying26 rfl rfl) fun a s => ?_
    refine gm s rfl rfl fun a s => ?_
    refine gl s rfl (l_call (cap := []) s rfl func31 rfl (by kernel_rfl) rfl rfl (c_r41_argument n _ _ s.lt m_ (Ap03) (cp03) (Ap04) (cp04) (Ap05) (cp05) (s.ft 101 rfl) (s.ft 102 rfl) (s.ft 103 rfl) ((v_14 : Nat) : Int) r23 hr23) fun v38 a w hK hp s => ?_)
    obtain rfl := hp.trans (congrArg Value.bool hs26)
    refine qq s rfl (y_pick_t s rfl rfl) fun a s => ?_
    refine mv s rfl rfl fun a s => ?_
    refine gn s rfl fun a s => ?_
    refine gn s rfl fun a s => ?_
    refine gn s rfl fun a s => ?_
    refine gn s rfl fun a s => ?_
    refine qq s rfl (y_pick_f s rfl rfl) fun a s => ?_
    apply wN
    exact ⟨(false), hg, (s.sb rfl rfl rfl)⟩
   have hs22e := decide_eq_false hs22
   replace hg := br_f hg hs22
   apply wL
   refine qq s rfl (y_boxField (o' := 2) s rfl underlying26 rfl rfl rfl) fun a s => ?_
   refine qq s rfl (y_loadBox1 (kk := 1000) s rfl rfl rfl underlying22 rfl) fun a s => ?_
   refine mv s rfl rfl fun a s => ?_
   obtain ⟨p40, hep40, hpp40⟩ := SlR.elemX (s.ft 101 rfl) hx20
   refine qq s rfl (y_elem (sz := 1) (i := v_14) s rfl rfl underlying22 rfl hep40 rfl (lt_of_get hx20)) fun a s => ?_
   obtain ⟨hlq41, hmq41, csq41, hdq41, hcq41⟩ := hpp40
   obtain ⟨rfl, lq411⟩ := hdq41
   refine qq s rfl (y_ldp1 s rfl hlq41 hmq41 (hcq41 0 _ rfl) underlying9 rfl) fun a s => ?_
   refine qq s rfl (yl_b (y_seq s rfl rfl) hs22e) fun a s => ?_
   refine mv s rfl rfl fun a s => ?_
   refine gn s rfl fun a s => ?_
   refine gn s rfl fun a s => ?_
   refine gn s rfl fun a s => ?_
   refine qq s rfl (y_pick_f s rfl rfl) fun a s => ?_
   refine mv s rfl rfl fun a s => ?_
   refine gn s rfl fun a s => ?_
   refine gn s rfl fun a s => ?_
   refine gn s rfl fun a s => ?_
   refine gn s rfl fun a s => ?_
   refine qq s rfl (y_pick_f s rfl rfl) fun a s => ?_
   apply wN
   exact ⟨(false), hg, (s.sb rfl rfl rfl)⟩
  clear s a; rintro a w ⟨t_18, hg, s⟩
  subst hk17
  refine c_cond s rfl (fun hc42 => ?_) (fun hc42 => ?_)
  ·replace hg := br_t hg hc42
   obtain ⟨hk44, hg⟩ := chk_some hg
   apply wL
   refine mv s rfl rfl fun a s => ?_
   refine mv s rfl rfl fun a s => ?_
   refine l_seq rfl (l_buildDense (sz := 1) s 1702 rfl rfl rfl underlying30 rfl rfl rfl rfl rfl rfl rfl fun b47 a w hbb47 hK s => ?_)
   clear hbb47
   replace s := s.add 111 (rdF (Rep.num .i64) (cellsOfL [vI (((v_14 : Nat) : Int))]) ([((v_14 : Nat) : Int)])) (RdAll.cons (by exact rfl) (RdAll.nil _ _ _))
   have hs49 := row_src (s.wd.holds 1702 _ rfl) (RdAll.one (s.ft 111 rfl))
   refine l_seq rfl (l_append (sz := 1) (by_ := 8) (N := (out_10 ++ [((v_14 : Nat) : Int)]).length) (ys := cs13 ++ (cellsOfL [vI (((v_14 : Nat) : Int))])) s 700106 rfl rfl rfl underlying30 rfl rfl rfl rfl rfl hs49 (by simp) rfl (by have hr := hk44; clear hg; first | omega | (simp only [List.length_append, List.length_cons, List.length_nil] at hr ⊢; omega) | (simp at hr ⊢; omega)) (by have hr := hk44; clear hg; first | omega | (simp only [List.length_append, List.length_cons, List.length_nil] at hr ⊢; omega) | (simp at hr ⊢; omega)) rfl fun Aq48 cq48 a w hA hK s => ?_)
   replace s := s.add 112 (rdF (Rep.num .i64) (cs13 ++ (cellsOfL [vI (((v_14 : Nat) : Int))])) (out_10 ++ [((v_14 : Nat) : Int)])) (RdAll.append (s.ft 107 rfl) (s.ft 111 rfl))
   refine asg s rfl rfl fun a s => ?_
   apply wO
   refine p_inN ?_
   apply pN
   apply wL
   refine mv s rfl rfl fun a s => ?_
   refine qq s rfl (y_addN (i := v_14) (j := 1) s rfl rfl (in64.2 (by omega))) fun a s => ?_
   refine asg s rfl rfl fun a s => ?_
   apply wN
   replace s := s.add 107 (rdF (Rep.num .i64) (cs13 ++ (cellsOfL [vI (((v_14 : Nat) : Int))])) (out_10 ++ [((v_14 : Nat) : Int)])) (s.ft 112 rfl)
   exact ⟨m1, Nat.lt_succ_self _, ⟨(out_10 ++ [((v_14 : Nat) : Int)]), (v_14 + 1), (Aq48), (cq48), (cs13 ++ (cellsOfL [vI (((v_14 : Nat) : Int))])), hg, (s.sb rfl rfl rfl)⟩⟩
  replace hg := br_n hg hc42
  apply wp_skip
  refine p_inN ?_
  apply pN
  apply wL
  refine mv s rfl rfl fun a s => ?_
  refine qq s rfl (y_addN (i := v_14) (j := 1) s rfl rfl (in64.2 (by omega))) fun a s => ?_
  refine asg s rfl rfl fun a s => ?_
  apply wN
  replace s := s.al 107 107 rfl
  exact ⟨m1, Nat.lt_succ_self _, ⟨(out_10), (v_14 + 1), (A11), (c12), (cs13), hg, (s.sb rfl rfl rfl)⟩⟩
 replace hg := br_f hg hc15
 apply wp_exit
 refine p_then ?_
 refine p_then ?_
 refine p_in ?_
 apply pN
 apply wR
 refine mv s rfl rfl fun a s => ?_
 refine asg s rfl rfl fun a s => ?_
 apply wN
 apply wp_ret
 obtain rfl := Option.some.inj hg
 refine fin1 (fn := Tryz.f13) s rfl (r_tmp s rfl) ?_
 exact ⟨(A11), (c12), rfl, (s.rowOut (R := (Rep.num .i64)) (kk := 700106) rfl rfl (s.ft 107 rfl))⟩
set_option maxHeartbeats 400000 in
theorem c_law41_labelled (n : Nat) (M : Bs) (w0 : World) (hM : ∀ b, M b → b < w0.heap.size) (m_ : MRS) (Ap03 : Option Addr) (cp03 : Nat) (Ap04 : Option Addr) (cp04 : Nat) (Ap05 : Option Addr) (cp05 : Nat) (hp03 : SlR Rep.str M w0 Ap03 (m_.Vars).length cp03 (m_.Vars)) (hp04 : SlR REP M w0 Ap04 (m_.Rels).length cp04 (m_.Rels)) (hp05 : SlR RQeq M w0 Ap05 (m_.Cons).length cp05 (m_.Cons)) (choose_ : (List UInt8)) (Ap11 : Option Addr) (cp11 : Nat) (hp11 : SlR Rep.u8 M w0 Ap11 (choose_).length cp11 (choose_)) (r : (List Int)) (hg : law41_labelled n m_ choose_ = some r) :
    Calls Tryz.prog 16 [.agg #[.int .i64 (m_.Top), .int .i64 (m_.Index), .slice (Ap03) ((m_.Vars).length) (cp03), .slice (Ap04) ((m_.Rels).length) (cp04), .slice (Ap05) ((m_.Cons).length) (cp05)], .slice (Ap11) ((choose_).length) (cp11)].toArray w0 (Ret noB w0 fun v w => ∃ (Aa1 : Option Addr), ∃ (ca1 : Nat), v = .slice (Aa1) ((r).length) (ca1) ∧ (SlR (Rep.num .i64) M w Aa1 (r).length ca1 (r))) := by
 unfold law41_labelled at hg
 refine enter M noB func16 rfl rfl hM ?_
 intro a s
 replace s := s.es 101 hp03
 replace s := s.es 102 hp04
 replace s := s.es 103 hp05
 replace s := s.es 104 hp11
 apply wR
 refine l_seq rfl (l_box (zs := [vI (m_.Top), vI (m_.Index), sl Ap03 (m_.Vars) cp03, sl Ap04 (m_.Rels) cp04, sl Ap05 (m_.Cons) cp05]) s 1000 rfl rfl rfl rfl fun b2 a w hb hK s => ?_)
 refine asg s rfl rfl fun a s => ?_
 apply wN
 apply wQ
 obtain ⟨r3, hr3, hg⟩ := bind_some hg
 obtain ⟨r6, hr6, hg⟩ := bind_some hg
 refine d_plan s [] [(0, some 1000), (2, some 1000), (1, none), (3, none), (4, none), (5, none)] rfl (by kernel_rfl) (by kernel_rfl) rfl ?_; clear s; intro wr hZ s; have hR := s.wd
 refine qt s hR rfl (y_loadAll (kk := 1000) s rfl rfl underlying26 rfl rfl) fun a s => ?_
 refine qt s hR rfl (y_loadAll (kk := 1000) s rfl rfl underlying26 rfl rfl) fun a s => ?_
 refine l_take s rfl rfl (l_call (cap := []) s rfl func15 rfl (by kernel_rfl) rfl rfl (c_r41_Labels n _ _ s.lt m_ (Ap03) (cp03) (Ap04) (cp04) (Ap05) (cp05) (s.ft 101 rfl) (s.ft 102 rfl) (s.ft 103 rfl) r3 hr3) fun v9 a w hK hp s => ?_)
 replace hZ := Nat.le_trans hZ hK.size; refine ⟨fun g _ h => h.grow hK, ?_⟩; clear hK
 obtain ⟨Au10a1, cu10a1, rfl, hu10a1⟩ := hp
 replace s := s.ns 107 hu10a1
 refine l_take s rfl rfl (l_call (cap := []) s rfl func13 rfl (by kernel_rfl) rfl rfl (c_r41_Holes n _ _ s.lt m_ (Ap03) (cp03) (Ap04) (cp04) (Ap05) (cp05) (s.ft 101 rfl) (s.ft 102 rfl) (s.ft 103 rfl) r6 hr6) fun v11 a w hK hp s => ?_)
 replace hZ := Nat.le_trans hZ hK.size; refine ⟨fun g _ h => h.grow hK, ?_⟩; clear hK
 obtain ⟨Au12a1, cu12a1, rfl, hu12a1⟩ := hp
 replace s := s.ns 108 hu12a1
 refine l_take s rfl rfl (l_quiet s rfl rfl (y_assign s rfl) fun a s => ?_); refine ⟨fun g _ h => h, ?_⟩
 refine l_take s rfl rfl (l_quiet s rfl rfl (y_assign s rfl) fun a s => ?_); refine ⟨fun g _ h => h, ?_⟩
 clear hR hZ
 apply pN
 apply wR
 refine l_seq rfl (l_buildEmpty (sz := 1) s 1200 underlying30 rfl rfl rfl fun b14 a w hbb14 hK s => ?_)
 clear hbb14
 refine asg s rfl rfl fun a s => ?_
 apply wN
 apply wQ
 apply wR
 refine mv s rfl rfl fun a s => ?_
 refine qq s rfl (y_lenSlice s rfl underlying30) fun a s => ?_
 refine mv s rfl rfl fun a s => ?_
 apply wN
 apply wp_block
 replace s := s.add 111 (rdF (Rep.num .i64) ([]) ([])) (RdAll.nil _ _ _)
 replace s := s.al 110 111 rfl
 replace s := s.pk [(1000, 1000), (700109, 1200)] (by decide)
 refine c_loop (σ := Nat) (fun m1 a w => ∃ (out_15 : (List Int)) (t_19 : Nat) (A16 : Option Addr) (c17 : Nat) (cs18 : List Value), law41_labelled_L0 n choose_ r3 r6 m1 out_15 t_19 = some r ∧ St (⟨Tryz.f16.ntmps, M, noB, w0⟩ : Ctx) [(1, sl Ap11 (choose_) cp11), (5, sl Au10a1 (r3) cu10a1), (7, sl A16 (out_15) c17), (16, vI ((((r6).length : Nat) : Int))), (17, vI (((t_19 : Nat) : Int)))] [(700109, Ob.row (A16) ((out_15).length) (c17) 3 1 (cs18))] [(104, slF Rep.u8 (Ap11) ((choose_).length) (cp11) (choose_)), (107, slF (Rep.num .i64) (Au10a1) ((r3).length) (cu10a1) (r3)), (110, rdF (Rep.num .i64) (cs18) (out_15))] a w) (fun m1 => m1) n ⟨([]), (0), (some ⟨b14, 0, none⟩), (0), ([]), hg, (s.sb rfl rfl rfl)⟩ ?_
 clear s a; rintro m1 a w ⟨out_15, t_19, A16, c17, cs18, hg, s⟩
 rcases m1 with _ | m1
 ·rw [law41_labelled_L0] at hg; cases hg
 rw [law41_labelled_L0] at hg
 apply wR
 refine qq s rfl (y_lssN (i := t_19) (j := ((r6).length)) s rfl rfl) fun a s => ?_
 apply wN
 apply wQ
 refine c_dec s rfl (fun hc20 => ?_) (fun hc20 => ?_)
 ·replace hg := br_t hg hc20
  apply wp_skip
  apply pN
  apply wQ
  apply wp_block
  apply wR
  refine mv s rfl rfl fun a s => ?_
  refine asg s rfl rfl fun a s => ?_
  apply wN
  apply wR
  refine asg s rfl rfl fun a s => ?_
  apply wN
  apply wQ
  apply wR
  refine mv s rfl rfl fun a s => ?_
  refine mv s rfl rfl fun a s => ?_
  refine qq s rfl (y_lenSlice s rfl underlying32) fun a s => ?_
  refine qq s rfl (y_lssN (i := t_19) (j := ((choose_).length)) s rfl rfl) fun a s => ?_
  apply wN
  obtain ⟨k21, hg, hk21⟩ := jn_some hg
  refine c_post (fun a w => ∃ (k_22 : Nat), k21 k_22 = some r ∧ St (⟨Tryz.f16.ntmps, M, noB, w0⟩ : Ctx) [(1, sl Ap11 (choose_) cp11), (5, sl Au10a1 (r3) cu10a1), (7, sl A16 (out_15) c17), (9, vI (((k_22 : Nat) : Int))), (16, vI ((((r6).length : Nat) : Int))), (17, vI (((t_19 : Nat) : Int)))] [(700109, Ob.row (A16) ((out_15).length) (c17) 3 1 (cs18))] [(104, slF Rep.u8 (Ap11) ((choose_).length) (cp11) (choose_)), (107, slF (Rep.num .i64) (Au10a1) ((r3).length) (cu10a1) (r3)), (110, rdF (Rep.num .i64) (cs18) (out_15))] a w) ?_ ?_
  ·refine c_dec s rfl (fun hc23 => ?_) (fun hc23 => ?_)
   ·replace hg := br_t hg hc23
    have hmx24 := SlR.mx (s.ft 104 rfl)
    obtain ⟨x26, hx26, hg⟩ := bind_some hg
    apply wL
    refine mv s rfl rfl fun a s => ?_
    refine mv s rfl rfl fun a s => ?_
    obtain ⟨p28, hep28, hpp28⟩ := SlR.elemX (s.ft 104 rfl) hx26
    refine qq s rfl (y_elem (sz := 1) (i := t_19) s rfl rfl underlying32 rfl hep28 rfl (lt_of_get hx26)) fun a s => ?_
    obtain ⟨hlq29, hmq29, csq29, hdq29, hcq29⟩ := hpp28
    obtain rfl := hdq29
    refine qq s rfl (y_ldp1 s rfl hlq29 hmq29 (hcq29 0 _ rfl) underlying5 rfl) fun a s => ?_
    have hu8 := (x26).toNat_lt
    refine qq s rfl (y_conv s rfl underlying5 underlying3 (in64.2 (by omega))) fun a s => ?_
    clear hu8
    refine asg s rfl rfl fun a s => ?_
    apply wN
    exact ⟨(x26.toNat), hg, (s.sb rfl rfl rfl)⟩
   replace hg := br_f hg hc23
   apply wp_skip
   apply pN
   exact ⟨(0), hg, (s.sb rfl rfl rfl)⟩
  clear s a; rintro a w ⟨k_22, hg, s⟩
  subst hk21
  apply wR
  refine mv s rfl rfl fun a s => ?_
  refine qq s rfl (y_lenSlice s rfl underlying30) fun a s => ?_
  refine qq s rfl (y_gtrN (i := ((r3).length)) (j := 0) s rfl rfl) fun a s => ?_
  apply wN
  refine c_dec s rfl (fun hc30 => ?_) (fun hc30 => ?_)
  ·replace hg := br_t hg hc30
   have hmx31 := SlR.mx (s.ft 107 rfl)
   obtain ⟨hk32, hg⟩ := chk_some hg
   obtain ⟨x34, hx34, hg⟩ := bind_some hg
   obtain ⟨hk37, hg⟩ := chk_some hg
   apply wL
   refine mv s rfl rfl fun a s => ?_
   refine mv s rfl rfl fun a s => ?_
   refine mv s rfl rfl fun a s => ?_
   refine mv s rfl rfl fun a s => ?_
   refine qq s rfl (y_lenSlice s rfl underlying30) fun a s => ?_
   refine qq s rfl (y_remN (i := k_22) (j := ((r3).length)) s rfl rfl hk32) fun a s => ?_
   obtain ⟨p40, hep40, hpp40⟩ := SlR.elemX (s.ft 107 rfl) hx34
   refine qq s rfl (y_elem (sz := 1) (i := (k_22 % ((r3).length))) s rfl rfl underlying30 rfl hep40 rfl (lt_of_get hx34)) fun a s => ?_
   obtain ⟨hlq41, hmq41, csq41, hdq41, hcq41⟩ := hpp40
   obtain rfl := hdq41
   refine qq s rfl (y_ldp1 s rfl hlq41 hmq41 (hcq41 0 _ rfl) underlying3 rfl) fun a s => ?_
   refine l_seq rfl (l_buildDense (sz := 1) s 2008 rfl rfl rfl underlying30 rfl rfl rfl rfl rfl rfl rfl fun b42 a w hbb42 hK s => ?_)
   clear hbb42
   replace s := s.add 114 (rdF (Rep.num .i64) (cellsOfL [vI x34]) ([x34])) (RdAll.cons (by exact rfl) (RdAll.nil _ _ _))
   have hs44 := row_src (s.wd.holds 2008 _ rfl) (RdAll.one (s.ft 114 rfl))
   refine l_seq rfl (l_append (sz := 1) (by_ := 8) (N := (out_15 ++ [x34]).length) (ys := cs18 ++ (cellsOfL [vI x34])) s 700109 rfl rfl rfl underlying30 rfl rfl rfl rfl rfl hs44 (by simp) rfl (by have hr := hk37; clear hg; first | omega | (simp only [List.length_append, List.length_cons, List.length_nil] at hr ⊢; omega) | (simp at hr ⊢; omega)) (by have hr := hk37; clear hg; first | omega | (simp only [List.length_append, List.length_cons, List.length_nil] at hr ⊢; omega) | (simp at hr ⊢; omega)) rfl fun Aq43 cq43 a w hA hK s => ?_)
   replace s := s.add 115 (rdF (Rep.num .i64) (cs18 ++ (cellsOfL [vI x34])) (out_15 ++ [x34])) (RdAll.append (s.ft 110 rfl) (s.ft 114 rfl))
   refine asg s rfl rfl fun a s => ?_
   apply wO
   refine p_inN ?_
   apply pN
   obtain ⟨hk45, hg⟩ := chk_some hg
   apply wL
   refine qq s rfl (y_addN (i := t_19) (j := 1) s rfl rfl (in64.2 (by omega))) fun a s => ?_
   refine mv s rfl rfl fun a s => ?_
   apply wN
   replace s := s.al 110 115 rfl
   exact ⟨m1, Nat.lt_succ_self _, ⟨(out_15 ++ [x34]), (t_19 + 1), (Aq43), (cq43), (cs18 ++ (cellsOfL [vI x34])), hg, (s.sb rfl rfl rfl)⟩⟩
  replace hg := br_f hg hc30
  apply wp_skip
  refine p_inN ?_
  apply pN
  obtain ⟨hk46, hg⟩ := chk_some hg
  apply wL
  refine qq s rfl (y_addN (i := t_19) (j := 1) s rfl rfl (in64.2 (by omega))) fun a s => ?_
  refine mv s rfl rfl fun a s => ?_
  apply wN
  replace s := s.al 110 110 rfl
  exact ⟨m1, Nat.lt_succ_self _, ⟨(out_15), (t_19 + 1), (A16), (c17), (cs18), hg, (s.sb rfl rfl rfl)⟩⟩
 replace hg := br_f hg hc20
 apply wp_exit
 refine p_then ?_
 refine p_then ?_
 refine p_in ?_
 apply pN
 apply wR
 refine mv s rfl rfl fun a s => ?_
 refine asg s rfl rfl fun a s => ?_
 apply wN
 apply wp_ret
 obtain rfl := Option.some.inj hg
 refine fin1 (fn := Tryz.f16) s rfl (r_tmp s rfl) ?_
 exact ⟨(A16), (c17), rfl, (s.rowOut (R := (Rep.num .i64)) (kk := 700109) rfl rfl (s.ft 110 rfl))⟩
set_option maxHeartbeats 400000 in
theorem c_r41_at (n : Nat) (M : Bs) (w0 : World) (hM : ∀ b, M b → b < w0.heap.size) (m_ : MRS) (Ap03 : Option Addr) (cp03 : Nat) (Ap04 : Option Addr) (cp04 : Nat) (Ap05 : Option Addr) (cp05 : Nat) (hp03 : SlR Rep.str M w0 Ap03 (m_.Vars).length cp03 (m_.Vars)) (hp04 : SlR REP M w0 Ap04 (m_.Rels).length cp04 (m_.Rels)) (hp05 : SlR RQeq M w0 Ap05 (m_.Cons).length cp05 (m_.Cons)) (plug_ : (List Int)) (Ap11 : Option Addr) (cp11 : Nat) (hp11 : SlR (Rep.num .i64) M w0 Ap11 (plug_).length cp11 (plug_)) (v_ : Int) (r : Int) (hg : r41_at n m_ plug_ v_ = some r) :
    Calls Tryz.prog 45 [.agg #[.int .i64 (m_.Top), .int .i64 (m_.Index), .slice (Ap03) ((m_.Vars).length) (cp03), .slice (Ap04) ((m_.Rels).length) (cp04), .slice (Ap05) ((m_.Cons).length) (cp05)], .slice (Ap11) ((plug_).length) (cp11), .int .i64 (v_)].toArray w0 (Ret noB w0 fun v w => v = .int .i64 (r)) := by
 unfold r41_at at hg
 refine enter M noB func45 rfl rfl hM ?_
 intro a s
 replace s := s.es 101 hp03
 replace s := s.es 102 hp04
 replace s := s.es 103 hp05
 replace s := s.es 104 hp11
 apply wR
 refine l_seq rfl (l_box (zs := [vI (m_.Top), vI (m_.Index), sl Ap03 (m_.Vars) cp03, sl Ap04 (m_.Rels) cp04, sl Ap05 (m_.Cons) cp05]) s 1000 rfl rfl rfl rfl fun b2 a w hb hK s => ?_)
 refine asg s rfl rfl fun a s => ?_
 apply wN
 apply wQ
 obtain ⟨r3, hr3, hg⟩ := bind_some hg
 apply wL
 refine qq s rfl (y_loadAll (kk := 1000) s rfl rfl underlying26 rfl rfl) fun a s => ?_
 refine l_seq rfl (l_call (cap := []) s rfl func13 rfl (by kernel_rfl) rfl rfl (c_r41_Holes n _ _ s.lt m_ (Ap03) (cp03) (Ap04) (cp04) (Ap05) (cp05) (s.ft 101 rfl) (s.ft 102 rfl) (s.ft 103 rfl) r3 hr3) fun v6 a w hK hp s => ?_)
 obtain ⟨Au7a1, cu7a1, rfl, hu7a1⟩ := hp
 replace s := s.ns 106 hu7a1
 refine asg s rfl rfl fun a s => ?_
 apply wN
 apply wQ
 apply wR
 refine asg s rfl rfl fun a s => ?_
 apply wN
 obtain ⟨k8, hg, hk8⟩ := jn_some hg
 refine c_post (fun a w => k8 = some r ∧ St (⟨Tryz.f45.ntmps, M, noB, w0⟩ : Ctx) [(2, vI v_), (3, vP b2 0)] [(1000, Ob.box b2 [vI (m_.Top), vI (m_.Index), sl Ap03 (m_.Vars) cp03, sl Ap04 (m_.Rels) cp04, sl Ap05 (m_.Cons) cp05] 26)] [(101, slF Rep.str (Ap03) ((m_.Vars).length) (cp03) (m_.Vars)), (102, slF REP (Ap04) ((m_.Rels).length) (cp04) (m_.Rels)), (103, slF RQeq (Ap05) ((m_.Cons).length) (cp05) (m_.Cons))] a w) ?_ ?_
 ·apply wp_block
  refine c_loop (σ := Nat) (fun m1 a w => ∃ (i_9 : Nat), r41_at_L0 n plug_ v_ r3 k8 m1 i_9 = some r ∧ St (⟨Tryz.f45.ntmps, M, noB, w0⟩ : Ctx) [(1, sl Ap11 (plug_) cp11), (2, vI v_), (3, vP b2 0), (7, sl Au7a1 (r3) cu7a1), (8, vI (((i_9 : Nat) : Int)))] [(1000, Ob.box b2 [vI (m_.Top), vI (m_.Index), sl Ap03 (m_.Vars) cp03, sl Ap04 (m_.Rels) cp04, sl Ap05 (m_.Cons) cp05] 26)] [(101, slF Rep.str (Ap03) ((m_.Vars).length) (cp03) (m_.Vars)), (102, slF REP (Ap04) ((m_.Rels).length) (cp04) (m_.Rels)), (103, slF RQeq (Ap05) ((m_.Cons).length) (cp05) (m_.Cons)), (104, slF (Rep.num .i64) (Ap11) ((plug_).length) (cp11) (plug_)), (106, slF (Rep.num .i64) (Au7a1) ((r3).length) (cu7a1) (r3))] a w) (fun m1 => m1) n ⟨(0), hg, (s.sb rfl rfl rfl)⟩ ?_
  clear s a; rintro m1 a w ⟨i_9, hg, s⟩
  rcases m1 with _ | m1
  ·rw [r41_at_L0] at hg; cases hg
  rw [r41_at_L0] at hg
  apply wQ
  apply wR
  refine mv s rfl rfl fun a s => ?_
  refine mv s rfl rfl fun a s => ?_
  refine qq s rfl (y_lenSlice s rfl underlying30) fun a s => ?_
  refine qq s rfl (y_lssN (i := i_9) (j := ((r3).length)) s rfl rfl) fun a s => ?_
  apply wN
  refine c_dec s rfl (fun hc10 => ?_) (fun hc10 => ?_)
  ·replace hg := br_t hg hc10
   have hmx11 := SlR.mx (s.ft 106 rfl)
   apply wp_skip
   apply pN
   apply wQ
   apply wp_block
   apply wQ
   obtain ⟨x13, hx13, hg⟩ := bind_some hg
   apply wL
   refine mv s rfl rfl fun a s => ?_
   refine mv s rfl rfl fun a s => ?_
   obtain ⟨p15, hep15, hpp15⟩ := SlR.elemX (s.ft 106 rfl) hx13
   refine qq s rfl (y_elem (sz := 1) (i := i_9) s rfl rfl underlying30 rfl hep15 rfl (lt_of_get hx13)) fun a s => ?_
   obtain ⟨hlq16, hmq16, csq16, hdq16, hcq16⟩ := hpp15
   obtain rfl := hdq16
   refine qq s rfl (y_ldp1 s rfl hlq16 hmq16 (hcq16 0 _ rfl) underlying3 rfl) fun a s => ?_
   refine mv s rfl rfl fun a s => ?_
   refine qq s rfl (y_eql s rfl rfl) fun a s => ?_
   apply wN
   refine c_dec s rfl (fun hc17 => ?_) (fun hc17 => ?_)
   ·replace hg := br_t hg hc17
    apply wQ
    obtain ⟨x19, hx19, hg⟩ := bind_some hg
    apply wL
    refine mv s rfl rfl fun a s => ?_
    refine mv s rfl rfl fun a s => ?_
    obtain ⟨p21, hep21, hpp21⟩ := SlR.elemX (s.ft 104 rfl) hx19
    refine qq s rfl (y_elem (sz := 1) (i := i_9) s rfl rfl underlying30 rfl hep21 rfl (lt_of_get hx19)) fun a s => ?_
    obtain ⟨hlq22, hmq22, csq22, hdq22, hcq22⟩ := hpp21
    obtain rfl := hdq22
    refine qq s rfl (y_ldp1 s rfl hlq22 hmq22 (hcq22 0 _ rfl) underlying3 rfl) fun a s => ?_
    refine asg s rfl rfl fun a s => ?_
    apply wN
    apply wp_ret
    refine p_inR ?_
    refine p_thenR ?_
    refine p_thenR ?_
    refine p_inR ?_
    refine p_thenR ?_
    obtain rfl := Option.some.inj hg
    refine fin1 (fn := Tryz.f45) s rfl (r_tmp s rfl) ?_
    exact rfl
   replace hg := br_f hg hc17
   apply wp_skip
   refine p_inN ?_
   apply pN
   apply wL
   refine mv s rfl rfl fun a s => ?_
   refine qq s rfl (y_addN (i := i_9) (j := 1) s rfl rfl (in64.2 (by omega))) fun a s => ?_
   refine asg s rfl rfl fun a s => ?_
   apply wN
   exact ⟨m1, Nat.lt_succ_self _, ⟨(i_9 + 1), hg, (s.sb rfl rfl rfl)⟩⟩
  replace hg := br_f hg hc10
  apply wp_exit
  refine p_then ?_
  refine p_then ?_
  refine p_in ?_
  apply pN
  exact ⟨hg, (s.sb rfl rfl rfl)⟩
 clear s a; rintro a w ⟨hg, s⟩
 subst hk8
 apply wQ
 apply wQ
 obtain ⟨r23, hr23, hg⟩ := bind_some hg
 obtain ⟨r26, hr26, hg⟩ := bind_some hg
 apply wL
 refine qq s rfl (y_loadAll (kk := 1000) s rfl rfl underlying26 rfl rfl) fun a s => ?_
 refine l_seq rfl (l_call (cap := []) s rfl func15 rfl (by kernel_rfl) rfl rfl (c_r41_Labels n _ _ s.lt m_ (Ap03) (cp03) (Ap04) (cp04) (Ap05) (cp05) (s.ft 101 rfl) (s.ft 102 rfl) (s.ft 103 rfl) r23 hr23) fun v29 a w hK hp s => ?_)
 obtain ⟨Au30a1, cu30a1, rfl, hu30a1⟩ := hp
 replace s := s.ns 108 hu30a1
 refine mv s rfl rfl fun a s => ?_
 refine l_seq rfl (l_call (cap := []) s rfl func23 rfl (by kernel_rfl) rfl rfl (c_r41_Has n _ _ s.lt r23 (Au30a1) (cu30a1) (s.ft 108 rfl) v_ r26 hr26) fun v31 a w hK hp s => ?_)
 obtain rfl := hp
 apply wN
 refine c_cond s rfl (fun hc33 => ?_) (fun hc33 => ?_)
 ·replace hg := br_t hg hc33
  apply wR
  refine mv s rfl rfl fun a s => ?_
  refine asg s rfl rfl fun a s => ?_
  apply wN
  apply wp_ret
  refine p_thenR ?_
  obtain rfl := Option.some.inj hg
  refine fin1 (fn := Tryz.f45) s rfl (r_tmp s rfl) ?_
  exact rfl
 replace hg := br_n hg hc33
 apply wp_skip
 apply pN
 apply wR
 refine asg s rfl rfl fun a s => ?_
 apply wN
 apply wp_ret
 obtain rfl := Option.some.inj hg
 refine fin1 (fn := Tryz.f45) s rfl (r_tmp s rfl) ?_
 exact rfl
set_option maxHeartbeats 400000 in
theorem c_r41_children (n : Nat) (M : Bs) (w0 : World) (hM : ∀ b, M b → b < w0.heap.size) (m_ : MRS) (Ap03 : Option Addr) (cp03 : Nat) (Ap04 : Option Addr) (cp04 : Nat) (Ap05 : Option Addr) (cp05 : Nat) (hp03 : SlR Rep.str M w0 Ap03 (m_.Vars).length cp03 (m_.Vars)) (hp04 : SlR REP M w0 Ap04 (m_.Rels).length cp04 (m_.Rels)) (hp05 : SlR RQeq M w0 Ap05 (m_.Cons).length cp05 (m_.Cons)) (plug_ : (List Int)) (Ap11 : Option Addr) (cp11 : Nat) (hp11 : SlR (Rep.num .i64) M w0 Ap11 (plug_).length cp11 (plug_)) (label_ : Int) (r : (List Int)) (hg : r41_children n m_ plug_ label_ = some r) :
    Calls Tryz.prog 35 [.agg #[.int .i64 (m_.Top), .int .i64 (m_.Index), .slice (Ap03) ((m_.Vars).length) (cp03), .slice (Ap04) ((m_.Rels).length) (cp04), .slice (Ap05) ((m_.Cons).length) (cp05)], .slice (Ap11) ((plug_).length) (cp11), .int .i64 (label_)].toArray w0 (Ret noB w0 fun v w => ∃ (Aa1 : Option Addr), ∃ (ca1 : Nat), v = .slice (Aa1) ((r).length) (ca1) ∧ (SlR (Rep.num .i64) M w Aa1 (r).length ca1 (r))) := by
 unfold r41_children at hg
 refine enter M noB func35 rfl rfl hM ?_
 intro a s
 replace s := s.es 101 hp03
 replace s := s.es 102 hp04
 replace s := s.es 103 hp05
 replace s := s.es 104 hp11
 apply wR
 refine l_seq rfl (l_box (zs := [vI (m_.Top), vI (m_.Index), sl Ap03 (m_.Vars) cp03, sl Ap04 (m_.Rels) cp04, sl Ap05 (m_.Cons) cp05]) s 1000 rfl rfl rfl rfl fun b2 a w hb hK s => ?_)
 refine asg s rfl rfl fun a s => ?_
 apply wN
 apply wR
 refine l_seq rfl (l_buildEmpty (sz := 1) s 1100 underlying30 rfl rfl rfl fun b4 a w hbb4 hK s => ?_)
 clear hbb4
 refine asg s rfl rfl fun a s => ?_
 apply wN
 apply wQ
 apply wR
 refine asg s rfl rfl fun a s => ?_
 apply wN
 apply wp_block
 replace s := s.add 107 (rdF (Rep.num .i64) ([]) ([])) (RdAll.nil _ _ _)
 replace s := s.al 106 107 rfl
 replace s := s.pk [(1000, 1000), (700105, 1100)] (by decide)
 refine c_loop (σ := Nat) (fun m1 a w => ∃ (out_5 : (List Int)) (i_9 : Nat) (A6 : Option Addr) (c7 : Nat) (cs8 : List Value), r41_children_L0 n m_ plug_ label_ m1 out_5 i_9 = some r ∧ St (⟨Tryz.f35.ntmps, M, noB, w0⟩ : Ctx) [(1, sl Ap11 (plug_) cp11), (2, vI label_), (3, vP b2 0), (7, sl A6 (out_5) c7), (8, vI (((i_9 : Nat) : Int)))] [(1000, Ob.box b2 [vI (m_.Top), vI (m_.Index), sl Ap03 (m_.Vars) cp03, sl Ap04 (m_.Rels) cp04, sl Ap05 (m_.Cons) cp05] 26), (700105, Ob.row (A6) ((out_5).length) (c7) 3 1 (cs8))] [(101, slF Rep.str (Ap03) ((m_.Vars).length) (cp03) (m_.Vars)), (102, slF REP (Ap04) ((m_.Rels).length) (cp04) (m_.Rels)), (103, slF RQeq (Ap05) ((m_.Cons).length) (cp05) (m_.Cons)), (104, slF (Rep.num .i64) (Ap11) ((plug_).length) (cp11) (plug_)), (106, rdF (Rep.num .i64) (cs8) (out_5))] a w) (fun m1 => m1) n ⟨([]), (0), (some ⟨b4, 0, none⟩), (0), ([]), hg, (s.sb rfl rfl rfl)⟩ ?_
 clear s a; rintro m1 a w ⟨out_5, i_9, A6, c7, cs8, hg, s⟩
 rcases m1 with _ | m1
 ·rw [r41_children_L0] at hg; cases hg
 rw [r41_children_L0] at hg
 apply wQ
 apply wR
 refine mv s rfl rfl fun a s => ?_
 refine qq s rfl (y_boxField (o' := 3) s rfl underlying26 rfl rfl rfl) fun a s => ?_
 refine qq s rfl (y_loadBox1 (kk := 1000) s rfl rfl rfl underlying23 rfl) fun a s => ?_
 refine qq s rfl (y_lenSlice s rfl underlying23) fun a s => ?_
 refine qq s rfl (y_lssN (i := i_9) (j := ((m_.Rels).length)) s rfl rfl) fun a s => ?_
 apply wN
 refine c_dec s rfl (fun hc10 => ?_) (fun hc10 => ?_)
 ·replace hg := br_t hg hc10
  have hmx11 := SlR.mx (s.ft 102 rfl)
  apply wp_skip
  apply pN
  apply wQ
  obtain ⟨k12, hg, hk12⟩ := jn_some hg
  refine c_post (fun a w => ∃ (out_13 : (List Int)) (A14 : Option Addr) (c15 : Nat) (cs16 : List Value), k12 out_13 = some r ∧ St (⟨Tryz.f35.ntmps, M, noB, w0⟩ : Ctx) [(1, sl Ap11 (plug_) cp11), (2, vI label_), (3, vP b2 0), (7, sl A14 (out_13) c15), (8, vI (((i_9 : Nat) : Int)))] [(1000, Ob.box b2 [vI (m_.Top), vI (m_.Index), sl Ap03 (m_.Vars) cp03, sl Ap04 (m_.Rels) cp04, sl Ap05 (m_.Cons) cp05] 26), (700108, Ob.row (A14) ((out_13).length) (c15) 3 1 (cs16))] [(101, slF Rep.str (Ap03) ((m_.Vars).length) (cp03) (m_.Vars)), (102, slF REP (Ap04) ((m_.Rels).length) (cp04) (m_.Rels)), (103, slF RQeq (Ap05) ((m_.Cons).length) (cp05) (m_.Cons)), (104, slF (Rep.num .i64) (Ap11) ((plug_).length) (cp11) (plug_)), (109, rdF (Rep.num .i64) (cs16) (out_13))] a w) ?_ ?_
  ·apply wp_block
   apply wR
   refine asg s rfl rfl fun a s => ?_
   apply wN
   apply wp_block
   replace s := s.al 111 106 rfl
   replace s := s.pk [(1000, 1000), (700110, 700105)] (by decide)
   refine c_loop (σ := Nat) (fun m2 a w => ∃ (out_17 : (List Int)) (k_21 : Nat) (A18 : Option Addr) (c19 : Nat) (cs20 : List Value), r41_children_L1 n m_ plug_ label_ i_9 k12 m2 out_17 k_21 = some r ∧ St (⟨Tryz.f35.ntmps, M, noB, w0⟩ : Ctx) [(1, sl Ap11 (plug_) cp11), (2, vI label_), (3, vP b2 0), (7, sl A18 (out_17) c19), (8, vI (((i_9 : Nat) : Int))), (9, vI (((k_21 : Nat) : Int)))] [(1000, Ob.box b2 [vI (m_.Top), vI (m_.Index), sl Ap03 (m_.Vars) cp03, sl Ap04 (m_.Rels) cp04, sl Ap05 (m_.Cons) cp05] 26), (700110, Ob.row (A18) ((out_17).length) (c19) 3 1 (cs20))] [(101, slF Rep.str (Ap03) ((m_.Vars).length) (cp03) (m_.Vars)), (102, slF REP (Ap04) ((m_.Rels).length) (cp04) (m_.Rels)), (103, slF RQeq (Ap05) ((m_.Cons).length) (cp05) (m_.Cons)), (104, slF (Rep.num .i64) (Ap11) ((plug_).length) (cp11) (plug_)), (111, rdF (Rep.num .i64) (cs20) (out_17))] a w) (fun m2 => m2) n ⟨(out_5), (0), (A6), (c7), (cs8), hg, (s.sb rfl rfl rfl)⟩ ?_
   clear s a; rintro m2 a w ⟨out_17, k_21, A18, c19, cs20, hg, s⟩
   rcases m2 with _ | m2
   ·rw [r41_children_L1] at hg; cases hg
   rw [r41_children_L1] at hg
   apply wQ
   apply wQ
   obtain ⟨k22, hg, hk22⟩ := jn_some hg
   refine c_post (fun a w => ∃ (t_23 : Bool), k22 t_23 = some r ∧ St (⟨Tryz.f35.ntmps, M, noB, w0⟩ : Ctx) [(1, sl Ap11 (plug_) cp11), (2, vI label_), (3, vP b2 0), (7, sl A18 (out_17) c19), (8, vI (((i_9 : Nat) : Int))), (9, vI (((k_21 : Nat) : Int))), (37, .bool (t_23))] [(1000, Ob.box b2 [vI (m_.Top), vI (m_.Index), sl Ap03 (m_.Vars) cp03, sl Ap04 (m_.Rels) cp04, sl Ap05 (m_.Cons) cp05] 26), (700110, Ob.row (A18) ((out_17).length) (c19) 3 1 (cs20))] [(101, slF Rep.str (Ap03) ((m_.Vars).length) (cp03) (m_.Vars)), (102, slF REP (Ap04) ((m_.Rels).length) (cp04) (m_.Rels)), (103, slF RQeq (Ap05) ((m_.Cons).length) (cp05) (m_.Cons)), (104, slF (Rep.num .i64) (Ap11) ((plug_).length) (cp11) (plug_)), (111, rdF (Rep.num .i64) (cs20) (out_17))] a w) ?_ ?_
   ·obtain ⟨x25, hx25, hg⟩ := bind_some hg
    rcases Decidable.em (k_21 < ((x25.Args).length)) with hs27 | hs27
    ·have hs27e := decide_eq_true hs27
     replace hg := br_t hg hs27
     apply wL
     refine mv s rfl rfl fun a s => ?_
     refine qq s rfl (y_boxField (o' := 3) s rfl underlying26 rfl rfl rfl) fun a s => ?_
     refine qq s rfl (y_loadBox1 (kk := 1000) s rfl rfl rfl underlying23 rfl) fun a s => ?_
     refine mv s rfl rfl fun a s => ?_
     obtain ⟨p30, hep30, hpp30⟩ := SlR.elemX (s.ft 102 rfl) hx25
     refine qq s rfl (y_elem (sz := 3) (i := i_9) s rfl rfl underlying23 rfl hep30 rfl (lt_of_get hx25)) fun a s => ?_
     refine qq s rfl (y_ptrField (o' := 2) s rfl underlying43 rfl rfl rfl) fun a s => ?_
     obtain ⟨hlq31, hmq31, csq31, hdq31, hcq31⟩ := hpp30
     obtain ⟨Aq313, cq313, rfl, lq311, hq313⟩ := REP.open hdq31
     replace s := s.ns 114 hq313
     refine qq s rfl (y_ldp1 s rfl hlq31 hmq31 (hcq31 2 _ rfl) underlying41 rfl) fun a s => ?_
     refine qq s rfl (y_lenSlice s rfl underlying41) fun a s => ?_
     refine qq s rfl (yl_b (y_lssN (i := k_21) (j := ((x25.Args).length)) s rfl rfl) hs27e) fun a s => ?_
     refine mv s rfl rfl fun a s => ?_
     refine gy s rfl (y_boxField (o' := 3) s rfl underlying26 rfl rfl rfl) fun a s => ?_
     refine gy s rfl (y_loadBox1 (kk := 1000) s rfl rfl rfl underlying23 rfl) fun a s => ?_
     refine gm s rfl rfl fun a s => ?_
     obtain ⟨p32, hep32, hpp32⟩ := SlR.elemX (s.ft 102 rfl) hx25
     refine gy s rfl (y_elem (sz := 3) (i := i_9) s rfl rfl underlying23 rfl hep32 rfl (lt_of_get hx25)) fun a s => ?_
     refine gy s rfl (y_ptrField (o' := 1) s rfl underlying43 rfl rfl rfl) fun a s => ?_
     obtain ⟨hlq33, hmq33, csq33, hdq33, hcq33⟩ := hpp32
     obtain ⟨Aq333, cq333, rfl, lq331, hq333⟩ := REP.open hdq33
     replace s := s.ns 115 hq333
     refine gy s rfl (y_ldp1 s rfl hlq33 hmq33 (hcq33 1 _ rfl) underlying3 rfl) fun a s => ?_
     refine gm s rfl rfl fun a s => ?_
     refine gy s rfl (y_eql s rfl rfl) fun a s => ?_
     refine qq s rfl (y_pick_t s rfl rfl) fun a s => ?_
     apply wN
     exact ⟨(decide (x25.Label = label_)), hg, (s.sb rfl rfl rfl)⟩
    have hs27e := decide_eq_false hs27
    replace hg := br_f hg hs27
    apply wL
    refine mv s rfl rfl fun a s => ?_
    refine qq s rfl (y_boxField (o' := 3) s rfl underlying26 rfl rfl rfl) fun a s => ?_
    refine qq s rfl (y_loadBox1 (kk := 1000) s rfl rfl rfl underlying23 rfl) fun a s => ?_
    refine mv s rfl rfl fun a s => ?_
    obtain ⟨p34, hep34, hpp34⟩ := SlR.elemX (s.ft 102 rfl) hx25
    refine qq s rfl (y_elem (sz := 3) (i := i_9) s rfl rfl underlying23 rfl hep34 rfl (lt_of_get hx25)) fun a s => ?_
    refine qq s rfl (y_ptrField (o' := 2) s rfl underlying43 rfl rfl rfl) fun a s => ?_
    obtain ⟨hlq35, hmq35, csq35, hdq35, hcq35⟩ := hpp34
    obtain ⟨Aq353, cq353, rfl, lq351, hq353⟩ := REP.open hdq35
    replace s := s.ns 116 hq353
    refine qq s rfl (y_ldp1 s rfl hlq35 hmq35 (hcq35 2 _ rfl) underlying41 rfl) fun a s => ?_
    refine qq s rfl (y_lenSlice s rfl underlying41) fun a s => ?_
    refine qq s rfl (yl_b (y_lssN (i := k_21) (j := ((x25.Args).length)) s rfl rfl) hs27e) fun a s => ?_
    refine mv s rfl rfl fun a s => ?_
    refine gn s rfl fun a s => ?_
    refine gn s rfl fun a s => ?_
    refine gn s rfl fun a s => ?_
    refine gn s rfl fun a s => ?_
    refine gn s rfl fun a s => ?_
    refine gn s rfl fun a s => ?_
    refine gn s rfl fun a s => ?_
    refine gn s rfl fun a s => ?_
    refine qq s rfl (y_pick_f s rfl rfl) fun a s => ?_
    apply wN
    exact ⟨(false), hg, (s.sb rfl rfl rfl)⟩
   clear s a; rintro a w ⟨t_23, hg, s⟩
   subst hk22
   refine c_cond s rfl (fun hc36 => ?_) (fun hc36 => ?_)
   ·replace hg := br_t hg hc36
    apply wp_skip
    apply pN
    apply wQ
    apply wp_block
    apply wQ
    obtain ⟨x38, hx38, hg⟩ := bind_some hg
    obtain ⟨x41, hx41, hg⟩ := bind_some hg
    obtain ⟨r43, hr43, hg⟩ := bind_some hg
    refine d_plan s [] [(0, some 1000), (1, some 0), (2, some 0), (3, some 1000), (4, some 0), (5, some 0), (6, some 0), (7, some 0), (8, some 0), (9, some 0), (10, some 0), (11, some 0), (12, none), (13, none)] rfl (by kernel_rfl) (by kernel_rfl) rfl ?_; clear s; intro wr hZ s; have hR := s.wd
    refine qt s hR rfl (y_loadAll (kk := 1000) s rfl rfl underlying26 rfl rfl) fun a s => ?_
    refine qt s hR rfl (y_move s rfl) fun a s => ?_
    refine qt s hR rfl (y_boxField (o' := 3) s rfl underlying26 rfl rfl rfl) fun a s => ?_
    refine qt s hR rfl (y_loadBox1 (kk := 1000) s rfl rfl rfl underlying23 rfl) fun a s => ?_
    refine qt s hR rfl (y_move s rfl) fun a s => ?_
    obtain ⟨p46, hep46, hpp46⟩ := SlR.elemX (s.ft 102 rfl) hx38
    refine qt s hR rfl (y_elem (sz := 3) (i := i_9) s rfl rfl underlying23 rfl hep46 rfl (lt_of_get hx38)) fun a s => ?_
    refine qt s hR rfl (y_ptrField (o' := 2) s rfl underlying43 rfl rfl rfl) fun a s => ?_
    obtain ⟨hlq47, hmq47, csq47, hdq47, hcq47⟩ := hpp46
    obtain ⟨Aq473, cq473, rfl, lq471, hq473⟩ := REP.open hdq47
    replace s := s.ns 118 hq473
    refine qt s hR rfl (y_ldp1 s rfl hlq47 hmq47 (hcq47 2 _ rfl) underlying41 rfl) fun a s => ?_
    refine qt s hR rfl (y_move s rfl) fun a s => ?_
    obtain ⟨p48, hep48, hpp48⟩ := SlR.elemX (s.ft 118 rfl) hx41
    refine qt s hR rfl (y_elem (sz := 2) (i := k_21) s rfl rfl underlying41 rfl hep48 rfl (lt_of_get hx41)) fun a s => ?_
    refine qt s hR rfl (y_ptrField (o' := 1) s rfl underlying45 rfl rfl rfl) fun a s => ?_
    obtain ⟨hlq49, hmq49, csq49, hdq49, hcq49⟩ := hpp48
    obtain ⟨rfl, lq491⟩ := RArg.open hdq49
    refine qt s hR rfl (y_ldp1 s rfl hlq49 hmq49 (hcq49 1 _ rfl) underlying3 rfl) fun a s => ?_
    refine l_take s rfl rfl (l_call (cap := []) s rfl func45 rfl (by kernel_rfl) rfl rfl (c_r41_at n _ _ s.lt m_ (Ap03) (cp03) (Ap04) (cp04) (Ap05) (cp05) (s.ft 101 rfl) (s.ft 102 rfl) (s.ft 103 rfl) plug_ (Ap11) (cp11) (s.ft 104 rfl) x41.Var r43 hr43) fun v50 a w hK hp s => ?_)
    replace hZ := Nat.le_trans hZ hK.size; refine ⟨fun g _ h => h.grow hK, ?_⟩; clear hK
    obtain rfl := hp
    refine l_take s rfl rfl (l_quiet s rfl rfl (y_assign s rfl) fun a s => ?_); refine ⟨fun g _ h => h, ?_⟩
    clear hR hZ
    apply pN
    apply wR
    refine mv s rfl rfl fun a s => ?_
    refine qq s rfl (y_geq s rfl rfl) fun a s => ?_
    apply wN
    refine c_dec s rfl (fun hc52 => ?_) (fun hc52 => ?_)
    ·replace hg := br_t hg hc52
     obtain ⟨hk54, hg⟩ := chk_some hg
     apply wL
     refine mv s rfl rfl fun a s => ?_
     refine mv s rfl rfl fun a s => ?_
     refine l_seq rfl (l_buildDense (sz := 1) s 2002 rfl rfl rfl underlying30 rfl rfl rfl rfl rfl rfl rfl fun b57 a w hbb57 hK s => ?_)
     clear hbb57
     replace s := s.add 121 (rdF (Rep.num .i64) (cellsOfL [vI r43]) ([r43])) (RdAll.cons (by exact rfl) (RdAll.nil _ _ _))
     have hs59 := row_src (s.wd.holds 2002 _ rfl) (RdAll.one (s.ft 121 rfl))
     refine l_seq rfl (l_append (sz := 1) (by_ := 8) (N := (out_17 ++ [r43]).length) (ys := cs20 ++ (cellsOfL [vI r43])) s 700110 rfl rfl rfl underlying30 rfl rfl rfl rfl rfl hs59 (by simp) rfl (by have hr := hk54; clear hg; first | omega | (simp only [List.length_append, List.length_cons, List.length_nil] at hr ⊢; omega) | (simp at hr ⊢; omega)) (by have hr := hk54; clear hg; first | omega | (simp only [List.length_append, List.length_cons, List.length_nil] at hr ⊢; omega) | (simp at hr ⊢; omega)) rfl fun Aq58 cq58 a w hA hK s => ?_)
     replace s := s.add 122 (rdF (Rep.num .i64) (cs20 ++ (cellsOfL [vI r43])) (out_17 ++ [r43])) (RdAll.append (s.ft 111 rfl) (s.ft 121 rfl))
     refine asg s rfl rfl fun a s => ?_
     apply wO
     refine p_inN ?_
     apply pN
     obtain ⟨hk60, hg⟩ := chk_some hg
     apply wL
     refine mv s rfl rfl fun a s => ?_
     refine qq s rfl (y_addN (i := k_21) (j := 1) s rfl rfl (in64.2 (by omega))) fun a s => ?_
     refine asg s rfl rfl fun a s => ?_
     apply wN
     replace s := s.al 111 122 rfl
     exact ⟨m2, Nat.lt_succ_self _, ⟨(out_17 ++ [r43]), (k_21 + 1), (Aq58), (cq58), (cs20 ++ (cellsOfL [vI r43])), hg, (s.sb rfl rfl rfl)⟩⟩
    replace hg := br_f hg hc52
    apply wp_skip
    refine p_inN ?_
    apply pN
    obtain ⟨hk61, hg⟩ := chk_some hg
    apply wL
    refine mv s rfl rfl fun a s => ?_
    refine qq s rfl (y_addN (i := k_21) (j := 1) s rfl rfl (in64.2 (by omega))) fun a s => ?_
    refine asg s rfl rfl fun a s => ?_
    apply wN
    replace s := s.al 111 111 rfl
    exact ⟨m2, Nat.lt_succ_self _, ⟨(out_17), (k_21 + 1), (A18), (c19), (cs20), hg, (s.sb rfl rfl rfl)⟩⟩
   replace hg := br_n hg hc36
   apply wp_exit
   refine p_then ?_
   refine p_then ?_
   refine p_in ?_
   refine p_inN ?_
   apply pN
   replace s := s.al 109 111 rfl
   replace s := s.pk [(1000, 1000), (700108, 700110)] (by decide)
   exact ⟨(out_17), (A18), (c19), (cs20), hg, (s.sb rfl rfl rfl)⟩
  clear s a; rintro a w ⟨out_13, A14, c15, cs16, hg, s⟩
  subst hk12
  apply wL
  refine mv s rfl rfl fun a s => ?_
  refine qq s rfl (y_addN (i := i_9) (j := 1) s rfl rfl (in64.2 (by omega))) fun a s => ?_
  refine asg s rfl rfl fun a s => ?_
  apply wN
  replace s := s.al 106 109 rfl
  replace s := s.pk [(1000, 1000), (700105, 700108)] (by decide)
  exact ⟨m1, Nat.lt_succ_self _, ⟨(out_13), (i_9 + 1), (A14), (c15), (cs16), hg, (s.sb rfl rfl rfl)⟩⟩
 replace hg := br_f hg hc10
 apply wp_exit
 refine p_then ?_
 refine p_then ?_
 refine p_in ?_
 apply pN
 apply wR
 refine mv s rfl rfl fun a s => ?_
 refine asg s rfl rfl fun a s => ?_
 apply wN
 apply wp_ret
 obtain rfl := Option.some.inj hg
 refine fin1 (fn := Tryz.f35) s rfl (r_tmp s rfl) ?_
 exact ⟨(A6), (c7), rfl, (s.rowOut (R := (Rep.num .i64)) (kk := 700105) rfl rfl (s.ft 106 rfl))⟩
set_option maxHeartbeats 400000 in
theorem c_r41_Below (n : Nat) (M : Bs) (w0 : World) (hM : ∀ b, M b → b < w0.heap.size) (t_ : MRS) (Ap03 : Option Addr) (cp03 : Nat) (Ap04 : Option Addr) (cp04 : Nat) (Ap05 : Option Addr) (cp05 : Nat) (hp03 : SlR Rep.str M w0 Ap03 (t_.Vars).length cp03 (t_.Vars)) (hp04 : SlR REP M w0 Ap04 (t_.Rels).length cp04 (t_.Rels)) (hp05 : SlR RQeq M w0 Ap05 (t_.Cons).length cp05 (t_.Cons)) (t_' : (List Int)) (Ap11 : Option Addr) (cp11 : Nat) (hp11 : SlR (Rep.num .i64) M w0 Ap11 (t_').length cp11 (t_')) (t_'' : Int) (r : (List Int)) (hg : r41_Below n t_ t_' t_'' = some r) :
    Calls Tryz.prog 18 [.agg #[.int .i64 (t_.Top), .int .i64 (t_.Index), .slice (Ap03) ((t_.Vars).length) (cp03), .slice (Ap04) ((t_.Rels).length) (cp04), .slice (Ap05) ((t_.Cons).length) (cp05)], .slice (Ap11) ((t_').length) (cp11), .int .i64 (t_'')].toArray w0 (Ret noB w0 fun v w => ∃ (Aa1 : Option Addr), ∃ (ca1 : Nat), v = .slice (Aa1) ((r).length) (ca1) ∧ (SlR (Rep.num .i64) M w Aa1 (r).length ca1 (r))) := by
 unfold r41_Below at hg
 refine enter M noB func18 rfl rfl hM ?_
 intro a s
 replace s := s.es 101 hp03
 replace s := s.es 102 hp04
 replace s := s.es 103 hp05
 replace s := s.es 104 hp11
 apply wR
 refine l_seq rfl (l_box (zs := [vI (t_.Top), vI (t_.Index), sl Ap03 (t_.Vars) cp03, sl Ap04 (t_.Rels) cp04, sl Ap05 (t_.Cons) cp05]) s 1000 rfl rfl rfl rfl fun b2 a w hb hK s => ?_)
 refine asg s rfl rfl fun a s => ?_
 apply wN
 apply wQ
 obtain ⟨r3, hr3, hg⟩ := bind_some hg
 apply wL
 refine qq s rfl (y_loadAll (kk := 1000) s rfl rfl underlying26 rfl rfl) fun a s => ?_
 refine l_seq rfl (l_call (cap := []) s rfl func15 rfl (by kernel_rfl) rfl rfl (c_r41_Labels n _ _ s.lt t_ (Ap03) (cp03) (Ap04) (cp04) (Ap05) (cp05) (s.ft 101 rfl) (s.ft 102 rfl) (s.ft 103 rfl) r3 hr3) fun v6 a w hK hp s => ?_)
 obtain ⟨Au7a1, cu7a1, rfl, hu7a1⟩ := hp
 replace s := s.ns 106 hu7a1
 refine asg s rfl rfl fun a s => ?_
 apply wN
 apply wQ
 apply wQ
 obtain ⟨r8, hr8, hg⟩ := bind_some hg
 apply wL
 refine mv s rfl rfl fun a s => ?_
 refine mv s rfl rfl fun a s => ?_
 refine l_seq rfl (l_call (cap := []) s rfl func23 rfl (by kernel_rfl) rfl rfl (c_r41_Has n _ _ s.lt r3 (Au7a1) (cu7a1) (s.ft 106 rfl) t_'' r8 hr8) fun v11 a w hK hp s => ?_)
 obtain rfl := hp
 refine qq s rfl (y_not s rfl) fun a s => ?_
 apply wN
 refine c_cond s rfl (fun hc13 => ?_) (fun hc13 => ?_)
 ·replace hg := br_t hg hc13
  apply wR
  refine asg s rfl rfl fun a s => ?_
  apply wN
  apply wp_ret
  refine p_thenR ?_
  obtain rfl := Option.some.inj hg
  refine fin1 (fn := Tryz.f18) s rfl (r_tmp s rfl) ?_
  exact ⟨(none), (0), rfl, (SlR.nil_ _ _ _)⟩
 replace hg := br_n hg hc13
 apply wp_skip
 apply pN
 apply wR
 refine mv s rfl rfl fun a s => ?_
 refine l_seq rfl (l_buildDense (sz := 1) s 1401 rfl rfl rfl underlying30 rfl rfl rfl rfl rfl rfl rfl fun b15 a w hbb15 hK s => ?_)
 clear hbb15
 refine asg s rfl rfl fun a s => ?_
 apply wN
 apply wQ
 apply wR
 refine asg s rfl rfl fun a s => ?_
 apply wN
 obtain ⟨k16, hg, hk16⟩ := jn_some hg
 refine c_post (fun a w => ∃ (t_17 : (List Int)) (A18 : Option Addr) (c19 : Nat) (cs20 : List Value), k16 t_17 = some r ∧ St (⟨Tryz.f18.ntmps, M, noB, w0⟩ : Ctx) [(7, sl Au7a1 (r3) cu7a1), (8, sl A18 (t_17) c19)] [(700107, Ob.row (A18) ((t_17).length) (c19) 3 1 (cs20))] [(106, slF (Rep.num .i64) (Au7a1) ((r3).length) (cu7a1) (r3)), (108, rdF (Rep.num .i64) (cs20) (t_17))] a w) ?_ ?_
 ·apply wp_block
  replace s := s.add 111 (rdF (Rep.num .i64) (cellsOfL [vI (t_'')]) ([t_''])) (RdAll.cons (by exact rfl) (RdAll.nil _ _ _))
  replace s := s.al 110 111 rfl
  replace s := s.pk [(1000, 1000), (700109, 1401)] (by decide)
  refine c_loop (σ := Nat) (fun m1 a w => ∃ (t_21 : (List Int)) (t_25 : Nat) (A22 : Option Addr) (c23 : Nat) (cs24 : List Value), r41_Below_L0 n t_ t_' k16 m1 t_21 t_25 = some r ∧ St (⟨Tryz.f18.ntmps, M, noB, w0⟩ : Ctx) [(1, sl Ap11 (t_') cp11), (3, vP b2 0), (7, sl Au7a1 (r3) cu7a1), (8, sl A22 (t_21) c23), (9, vI (((t_25 : Nat) : Int)))] [(1000, Ob.box b2 [vI (t_.Top), vI (t_.Index), sl Ap03 (t_.Vars) cp03, sl Ap04 (t_.Rels) cp04, sl Ap05 (t_.Cons) cp05] 26), (700109, Ob.row (A22) ((t_21).length) (c23) 3 1 (cs24))] [(101, slF Rep.str (Ap03) ((t_.Vars).length) (cp03) (t_.Vars)), (102, slF REP (Ap04) ((t_.Rels).length) (cp04) (t_.Rels)), (103, slF RQeq (Ap05) ((t_.Cons).length) (cp05) (t_.Cons)), (104, slF (Rep.num .i64) (Ap11) ((t_').length) (cp11) (t_')), (106, slF (Rep.num .i64) (Au7a1) ((r3).length) (cu7a1) (r3)), (110, rdF (Rep.num .i64) (cs24) (t_21))] a w) (fun m1 => m1) n ⟨([t_'']), (0), (some ⟨b15, 0, none⟩), (1), (cellsOfL [vI (t_'')]), hg, (s.sb rfl rfl rfl)⟩ ?_
  clear s a; rintro m1 a w ⟨t_21, t_25, A22, c23, cs24, hg, s⟩
  rcases m1 with _ | m1
  ·rw [r41_Below_L0] at hg; cases hg
  rw [r41_Below_L0] at hg
  apply wQ
  apply wR
  refine mv s rfl rfl fun a s => ?_
  refine mv s rfl rfl fun a s => ?_
  refine qq s rfl (y_lenSlice s rfl underlying30) fun a s => ?_
  refine qq s rfl (y_lssN (i := t_25) (j := ((t_21).length)) s rfl rfl) fun a s => ?_
  apply wN
  refine c_dec s rfl (fun hc26 => ?_) (fun hc26 => ?_)
  ·replace hg := br_t hg hc26
   have hmx27 := row_mx (s.wd.holds 700109 _ rfl)
   apply wp_skip
   apply pN
   apply wQ
   obtain ⟨k28, hg, hk28⟩ := jn_some hg
   refine c_post (fun a w => ∃ (t_29 : (List Int)) (A30 : Option Addr) (c31 : Nat) (cs32 : List Value), k28 t_29 = some r ∧ St (⟨Tryz.f18.ntmps, M, noB, w0⟩ : Ctx) [(1, sl Ap11 (t_') cp11), (3, vP b2 0), (7, sl Au7a1 (r3) cu7a1), (8, sl A30 (t_29) c31), (9, vI (((t_25 : Nat) : Int)))] [(1000, Ob.box b2 [vI (t_.Top), vI (t_.Index), sl Ap03 (t_.Vars) cp03, sl Ap04 (t_.Rels) cp04, sl Ap05 (t_.Cons) cp05] 26), (700112, Ob.row (A30) ((t_29).length) (c31) 3 1 (cs32))] [(101, slF Rep.str (Ap03) ((t_.Vars).length) (cp03) (t_.Vars)), (102, slF REP (Ap04) ((t_.Rels).length) (cp04) (t_.Rels)), (103, slF RQeq (Ap05) ((t_.Cons).length) (cp05) (t_.Cons)), (104, slF (Rep.num .i64) (Ap11) ((t_').length) (cp11) (t_')), (106, slF (Rep.num .i64) (Au7a1) ((r3).length) (cu7a1) (r3)), (113, rdF (Rep.num .i64) (cs32) (t_29))] a w) ?_ ?_
   ·apply wp_block
    apply wQ
    obtain ⟨x34, hx34, hg⟩ := bind_some hg
    obtain ⟨r36, hr36, hg⟩ := bind_some hg
    refine d_plan s [] [(0, some 1000), (1, some 0), (2, some 0), (3, some 0), (4, some 0), (5, some 700109), (6, none), (7, none)] rfl (by kernel_rfl) (by kernel_rfl) rfl ?_; clear s; intro wr hZ s; have hR := s.wd
    refine qt s hR rfl (y_loadAll (kk := 1000) s rfl rfl underlying26 rfl rfl) fun a s => ?_
    refine qt s hR rfl (y_move s rfl) fun a s => ?_
    refine qt s hR rfl (y_move s rfl) fun a s => ?_
    refine qt s hR rfl (y_move s rfl) fun a s => ?_
    obtain ⟨hiq39, bq39, hAq39⟩ := SlR.row1 (s.wd.holds 700109 _ rfl) (s.ft 110 rfl) rfl rfl hx34
    refine qt s hR rfl (y_rowIndex (sz := 1) (i := t_25) s rfl rfl underlying30 rfl hAq39 rfl hiq39) fun a s => ?_
    have hz40 := (s.ft 110 rfl).at_ _ _ hx34
    have ez40 := hz40
    refine qt s hR rfl (y_loadRow1 (kk := 700109) s rfl rfl hAq39 (take1 ez40) underlying3 rfl) fun a s => ?_
    refine l_take s rfl rfl (l_call (cap := []) s rfl func35 rfl (by kernel_rfl) rfl rfl (c_r41_children n _ _ s.lt t_ (Ap03) (cp03) (Ap04) (cp04) (Ap05) (cp05) (s.ft 101 rfl) (s.ft 102 rfl) (s.ft 103 rfl) t_' (Ap11) (cp11) (s.ft 104 rfl) x34 r36 hr36) fun v41 a w hK hp s => ?_)
    replace hZ := Nat.le_trans hZ hK.size; refine ⟨fun g _ h => h.grow hK, ?_⟩; clear hK
    obtain ⟨Au42a1, cu42a1, rfl, hu42a1⟩ := hp
    replace s := s.ns 115 hu42a1
    refine l_take s rfl rfl (l_quiet s rfl rfl (y_assign s rfl) fun a s => ?_); refine ⟨fun g _ h => h, ?_⟩
    clear hR hZ
    apply pN
    apply wR
    refine asg s rfl rfl fun a s => ?_
    apply wN
    apply wp_block
    replace s := s.al 117 110 rfl
    replace s := s.pk [(1000, 1000), (700116, 700109)] (by decide)
    refine c_loop (σ := Nat) (fun m2 a w => ∃ (t_43 : (List Int)) (t_47 : Nat) (A44 : Option Addr) (c45 : Nat) (cs46 : List Value), r41_Below_L1 n k28 r36 m2 t_43 t_47 = some r ∧ St (⟨Tryz.f18.ntmps, M, noB, w0⟩ : Ctx) [(1, sl Ap11 (t_') cp11), (3, vP b2 0), (7, sl Au7a1 (r3) cu7a1), (8, sl A44 (t_43) c45), (9, vI (((t_25 : Nat) : Int))), (10, sl Au42a1 (r36) cu42a1), (11, vI (((t_47 : Nat) : Int)))] [(1000, Ob.box b2 [vI (t_.Top), vI (t_.Index), sl Ap03 (t_.Vars) cp03, sl Ap04 (t_.Rels) cp04, sl Ap05 (t_.Cons) cp05] 26), (700116, Ob.row (A44) ((t_43).length) (c45) 3 1 (cs46))] [(101, slF Rep.str (Ap03) ((t_.Vars).length) (cp03) (t_.Vars)), (102, slF REP (Ap04) ((t_.Rels).length) (cp04) (t_.Rels)), (103, slF RQeq (Ap05) ((t_.Cons).length) (cp05) (t_.Cons)), (104, slF (Rep.num .i64) (Ap11) ((t_').length) (cp11) (t_')), (106, slF (Rep.num .i64) (Au7a1) ((r3).length) (cu7a1) (r3)), (115, slF (Rep.num .i64) (Au42a1) ((r36).length) (cu42a1) (r36)), (117, rdF (Rep.num .i64) (cs46) (t_43))] a w) (fun m2 => m2) n ⟨(t_21), (0), (A22), (c23), (cs24), hg, (s.sb rfl rfl rfl)⟩ ?_
    clear s a; rintro m2 a w ⟨t_43, t_47, A44, c45, cs46, hg, s⟩
    rcases m2 with _ | m2
    ·rw [r41_Below_L1] at hg; cases hg
    rw [r41_Below_L1] at hg
    apply wQ
    apply wR
    refine mv s rfl rfl fun a s => ?_
    refine mv s rfl rfl fun a s => ?_
    refine qq s rfl (y_lenSlice s rfl underlying30) fun a s => ?_
    refine qq s rfl (y_lssN (i := t_47) (j := ((r36).length)) s rfl rfl) fun a s => ?_
    apply wN
    refine c_dec s rfl (fun hc48 => ?_) (fun hc48 => ?_)
    ·replace hg := br_t hg hc48
     have hmx49 := SlR.mx (s.ft 115 rfl)
     apply wp_skip
     apply pN
     apply wQ
     apply wp_block
     apply wQ
     obtain ⟨x51, hx51, hg⟩ := bind_some hg
     obtain ⟨r53, hr53, hg⟩ := bind_some hg
     apply wL
     refine mv s rfl rfl fun a s => ?_
     refine mv s rfl rfl fun a s => ?_
     refine mv s rfl rfl fun a s => ?_
     obtain ⟨p56, hep56, hpp56⟩ := SlR.elemX (s.ft 115 rfl) hx51
     refine qq s rfl (y_elem (sz := 1) (i := t_47) s rfl rfl underlying30 rfl hep56 rfl (lt_of_get hx51)) fun a s => ?_
     obtain ⟨hlq57, hmq57, csq57, hdq57, hcq57⟩ := hpp56
     obtain rfl := hdq57
     refine qq s rfl (y_ldp1 s rfl hlq57 hmq57 (hcq57 0 _ rfl) underlying3 rfl) fun a s => ?_
     have hT := s
     replace hT := hT.fz (R := (Rep.num .i64)) (kk := 700116) [1000] 119 rfl rfl (hT.ft 117 rfl) rfl
     refine l_seq rfl (l_call (cap := []) s rfl func23 rfl (by kernel_rfl) rfl rfl (c_r41_Has n _ _ hT.lt t_43 (A44) (c45) (hT.ft 119 rfl) x51 r53 hr53) fun v58 a w hK hp s => ?_)
     obtain rfl := hp
     refine qq s rfl (y_not s rfl) fun a s => ?_
     apply wN
     refine c_cond s rfl (fun hc60 => ?_) (fun hc60 => ?_)
     ·replace hg := br_t hg hc60
      obtain ⟨hk64, hg⟩ := chk_some hg
      apply wL
      refine mv s rfl rfl fun a s => ?_
      refine mv s rfl rfl fun a s => ?_
      refine mv s rfl rfl fun a s => ?_
      obtain ⟨p67, hep67, hpp67⟩ := SlR.elemX (s.ft 115 rfl) hx51
      refine qq s rfl (y_elem (sz := 1) (i := t_47) s rfl rfl underlying30 rfl hep67 rfl (lt_of_get hx51)) fun a s => ?_
      obtain ⟨hlq68, hmq68, csq68, hdq68, hcq68⟩ := hpp67
      obtain rfl := hdq68
      refine qq s rfl (y_ldp1 s rfl hlq68 hmq68 (hcq68 0 _ rfl) underlying3 rfl) fun a s => ?_
      refine l_seq rfl (l_buildDense (sz := 1) s 2305 rfl rfl rfl underlying30 rfl rfl rfl rfl rfl rfl rfl fun b69 a w hbb69 hK s => ?_)
      clear hbb69
      replace s := s.add 122 (rdF (Rep.num .i64) (cellsOfL [vI x51]) ([x51])) (RdAll.cons (by exact rfl) (RdAll.nil _ _ _))
      have hs71 := row_src (s.wd.holds 2305 _ rfl) (RdAll.one (s.ft 122 rfl))
      refine l_seq rfl (l_append (sz := 1) (by_ := 8) (N := (t_43 ++ [x51]).length) (ys := cs46 ++ (cellsOfL [vI x51])) s 700116 rfl rfl rfl underlying30 rfl rfl rfl rfl rfl hs71 (by simp) rfl (by have hr := hk64; clear hg; first | omega | (simp only [List.length_append, List.length_cons, List.length_nil] at hr ⊢; omega) | (simp at hr ⊢; omega)) (by have hr := hk64; clear hg; first | omega | (simp only [List.length_append, List.length_cons, List.length_nil] at hr ⊢; omega) | (simp at hr ⊢; omega)) rfl fun Aq70 cq70 a w hA hK s => ?_)
      replace s := s.add 123 (rdF (Rep.num .i64) (cs46 ++ (cellsOfL [vI x51])) (t_43 ++ [x51])) (RdAll.append (s.ft 117 rfl) (s.ft 122 rfl))
      refine asg s rfl rfl fun a s => ?_
      apply wO
      refine p_inN ?_
      apply pN
      apply wL
      refine mv s rfl rfl fun a s => ?_
      refine qq s rfl (y_addN (i := t_47) (j := 1) s rfl rfl (in64.2 (by omega))) fun a s => ?_
      refine asg s rfl rfl fun a s => ?_
      apply wN
      replace s := s.al 117 123 rfl
      exact ⟨m2, Nat.lt_succ_self _, ⟨(t_43 ++ [x51]), (t_47 + 1), (Aq70), (cq70), (cs46 ++ (cellsOfL [vI x51])), hg, (s.sb rfl rfl rfl)⟩⟩
     replace hg := br_n hg hc60
     apply wp_skip
     refine p_inN ?_
     apply pN
     apply wL
     refine mv s rfl rfl fun a s => ?_
     refine qq s rfl (y_addN (i := t_47) (j := 1) s rfl rfl (in64.2 (by omega))) fun a s => ?_
     refine asg s rfl rfl fun a s => ?_
     apply wN
     replace s := s.al 117 117 rfl
     exact ⟨m2, Nat.lt_succ_self _, ⟨(t_43), (t_47 + 1), (A44), (c45), (cs46), hg, (s.sb rfl rfl rfl)⟩⟩
    replace hg := br_f hg hc48
    apply wp_exit
    refine p_then ?_
    refine p_then ?_
    refine p_in ?_
    refine p_inN ?_
    apply pN
    replace s := s.al 113 117 rfl
    replace s := s.pk [(1000, 1000), (700112, 700116)] (by decide)
    exact ⟨(t_43), (A44), (c45), (cs46), hg, (s.sb rfl rfl rfl)⟩
   clear s a; rintro a w ⟨t_29, A30, c31, cs32, hg, s⟩
   subst hk28
   apply wL
   refine mv s rfl rfl fun a s => ?_
   refine qq s rfl (y_addN (i := t_25) (j := 1) s rfl rfl (in64.2 (by omega))) fun a s => ?_
   refine asg s rfl rfl fun a s => ?_
   apply wN
   replace s := s.al 110 113 rfl
   replace s := s.pk [(1000, 1000), (700109, 700112)] (by decide)
   exact ⟨m1, Nat.lt_succ_self _, ⟨(t_29), (t_25 + 1), (A30), (c31), (cs32), hg, (s.sb rfl rfl rfl)⟩⟩
  replace hg := br_f hg hc26
  apply wp_exit
  refine p_then ?_
  refine p_then ?_
  refine p_in ?_
  apply pN
  replace s := s.al 108 110 rfl
  replace s := s.pk [(1000, 1000), (700107, 700109)] (by decide)
  exact ⟨(t_21), (A22), (c23), (cs24), hg, (s.sb rfl rfl rfl)⟩
 clear s a; rintro a w ⟨t_17, A18, c19, cs20, hg, s⟩
 subst hk16
 apply wR
 refine l_seq rfl (l_buildEmpty (sz := 1) s 2400 underlying30 rfl rfl rfl fun b73 a w hbb73 hK s => ?_)
 clear hbb73
 refine asg s rfl rfl fun a s => ?_
 apply wN
 apply wQ
 apply wR
 refine asg s rfl rfl fun a s => ?_
 apply wN
 apply wp_block
 replace s := s.add 126 (rdF (Rep.num .i64) ([]) ([])) (RdAll.nil _ _ _)
 replace s := s.al 125 126 rfl
 replace s := s.pk [(700107, 700107), (700124, 2400)] (by decide)
 refine c_loop (σ := Nat) (fun m3 a w => ∃ (t_74 : (List Int)) (t_78 : Nat) (A75 : Option Addr) (c76 : Nat) (cs77 : List Value), r41_Below_L2 n r3 t_17 m3 t_74 t_78 = some r ∧ St (⟨Tryz.f18.ntmps, M, noB, w0⟩ : Ctx) [(7, sl Au7a1 (r3) cu7a1), (8, sl A18 (t_17) c19), (12, sl A75 (t_74) c76), (13, vI (((t_78 : Nat) : Int)))] [(700107, Ob.row (A18) ((t_17).length) (c19) 3 1 (cs20)), (700124, Ob.row (A75) ((t_74).length) (c76) 3 1 (cs77))] [(106, slF (Rep.num .i64) (Au7a1) ((r3).length) (cu7a1) (r3)), (108, rdF (Rep.num .i64) (cs20) (t_17)), (125, rdF (Rep.num .i64) (cs77) (t_74))] a w) (fun m3 => m3) n ⟨([]), (0), (some ⟨b73, 0, none⟩), (0), ([]), hg, (s.sb rfl rfl rfl)⟩ ?_
 clear s a; rintro m3 a w ⟨t_74, t_78, A75, c76, cs77, hg, s⟩
 rcases m3 with _ | m3
 ·rw [r41_Below_L2] at hg; cases hg
 rw [r41_Below_L2] at hg
 apply wQ
 apply wR
 refine mv s rfl rfl fun a s => ?_
 refine mv s rfl rfl fun a s => ?_
 refine qq s rfl (y_lenSlice s rfl underlying30) fun a s => ?_
 refine qq s rfl (y_lssN (i := t_78) (j := ((r3).length)) s rfl rfl) fun a s => ?_
 apply wN
 refine c_dec s rfl (fun hc79 => ?_) (fun hc79 => ?_)
 ·replace hg := br_t hg hc79
  have hmx80 := SlR.mx (s.ft 106 rfl)
  apply wp_skip
  apply pN
  apply wQ
  apply wp_block
  apply wQ
  obtain ⟨x82, hx82, hg⟩ := bind_some hg
  obtain ⟨r84, hr84, hg⟩ := bind_some hg
  apply wL
  refine mv s rfl rfl fun a s => ?_
  refine mv s rfl rfl fun a s => ?_
  refine mv s rfl rfl fun a s => ?_
  obtain ⟨p87, hep87, hpp87⟩ := SlR.elemX (s.ft 106 rfl) hx82
  refine qq s rfl (y_elem (sz := 1) (i := t_78) s rfl rfl underlying30 rfl hep87 rfl (lt_of_get hx82)) fun a s => ?_
  obtain ⟨hlq88, hmq88, csq88, hdq88, hcq88⟩ := hpp87
  obtain rfl := hdq88
  refine qq s rfl (y_ldp1 s rfl hlq88 hmq88 (hcq88 0 _ rfl) underlying3 rfl) fun a s => ?_
  have hT := s
  replace hT := hT.fz (R := (Rep.num .i64)) (kk := 700107) [700124] 128 rfl rfl (hT.ft 108 rfl) rfl
  refine l_seq rfl (l_call (cap := []) s rfl func23 rfl (by kernel_rfl) rfl rfl (c_r41_Has n _ _ hT.lt t_17 (A18) (c19) (hT.ft 128 rfl) x82 r84 hr84) fun v89 a w hK hp s => ?_)
  obtain rfl := hp
  apply wN
  refine c_cond s rfl (fun hc91 => ?_) (fun hc91 => ?_)
  ·replace hg := br_t hg hc91
   obtain ⟨hk95, hg⟩ := chk_some hg
   apply wL
   refine mv s rfl rfl fun a s => ?_
   refine mv s rfl rfl fun a s => ?_
   refine mv s rfl rfl fun a s => ?_
   obtain ⟨p98, hep98, hpp98⟩ := SlR.elemX (s.ft 106 rfl) hx82
   refine qq s rfl (y_elem (sz := 1) (i := t_78) s rfl rfl underlying30 rfl hep98 rfl (lt_of_get hx82)) fun a s => ?_
   obtain ⟨hlq99, hmq99, csq99, hdq99, hcq99⟩ := hpp98
   obtain rfl := hdq99
   refine qq s rfl (y_ldp1 s rfl hlq99 hmq99 (hcq99 0 _ rfl) underlying3 rfl) fun a s => ?_
   refine l_seq rfl (l_buildDense (sz := 1) s 2905 rfl rfl rfl underlying30 rfl rfl rfl rfl rfl rfl rfl fun b100 a w hbb100 hK s => ?_)
   clear hbb100
   replace s := s.add 131 (rdF (Rep.num .i64) (cellsOfL [vI x82]) ([x82])) (RdAll.cons (by exact rfl) (RdAll.nil _ _ _))
   have hs102 := row_src (s.wd.holds 2905 _ rfl) (RdAll.one (s.ft 131 rfl))
   refine l_seq rfl (l_append (sz := 1) (by_ := 8) (N := (t_74 ++ [x82]).length) (ys := cs77 ++ (cellsOfL [vI x82])) s 700124 rfl rfl rfl underlying30 rfl rfl rfl rfl rfl hs102 (by simp) rfl (by have hr := hk95; clear hg; first | omega | (simp only [List.length_append, List.length_cons, List.length_nil] at hr ⊢; omega) | (simp at hr ⊢; omega)) (by have hr := hk95; clear hg; first | omega | (simp only [List.length_append, List.length_cons, List.length_nil] at hr ⊢; omega) | (simp at hr ⊢; omega)) rfl fun Aq101 cq101 a w hA hK s => ?_)
   replace s := s.add 132 (rdF (Rep.num .i64) (cs77 ++ (cellsOfL [vI x82])) (t_74 ++ [x82])) (RdAll.append (s.ft 125 rfl) (s.ft 131 rfl))
   refine asg s rfl rfl fun a s => ?_
   apply wO
   refine p_inN ?_
   apply pN
   apply wL
   refine mv s rfl rfl fun a s => ?_
   refine qq s rfl (y_addN (i := t_78) (j := 1) s rfl rfl (in64.2 (by omega))) fun a s => ?_
   refine asg s rfl rfl fun a s => ?_
   apply wN
   replace s := s.al 125 132 rfl
   exact ⟨m3, Nat.lt_succ_self _, ⟨(t_74 ++ [x82]), (t_78 + 1), (Aq101), (cq101), (cs77 ++ (cellsOfL [vI x82])), hg, (s.sb rfl rfl rfl)⟩⟩
  replace hg := br_n hg hc91
  apply wp_skip
  refine p_inN ?_
  apply pN
  apply wL
  refine mv s rfl rfl fun a s => ?_
  refine qq s rfl (y_addN (i := t_78) (j := 1) s rfl rfl (in64.2 (by omega))) fun a s => ?_
  refine asg s rfl rfl fun a s => ?_
  apply wN
  replace s := s.al 125 125 rfl
  exact ⟨m3, Nat.lt_succ_self _, ⟨(t_74), (t_78 + 1), (A75), (c76), (cs77), hg, (s.sb rfl rfl rfl)⟩⟩
 replace hg := br_f hg hc79
 apply wp_exit
 refine p_then ?_
 refine p_then ?_
 refine p_in ?_
 apply pN
 apply wR
 refine mv s rfl rfl fun a s => ?_
 refine asg s rfl rfl fun a s => ?_
 apply wN
 apply wp_ret
 obtain rfl := Option.some.inj hg
 refine fin1 (fn := Tryz.f18) s rfl (r_tmp s rfl) ?_
 exact ⟨(A75), (c76), rfl, (s.rowOut (R := (Rep.num .i64)) (kk := 700124) rfl rfl (s.ft 125 rfl))⟩
set_option maxHeartbeats 400000 in
theorem c_r41_tree (n : Nat) (M : Bs) (w0 : World) (hM : ∀ b, M b → b < w0.heap.size) (t_ : MRS) (Ap03 : Option Addr) (cp03 : Nat) (Ap04 : Option Addr) (cp04 : Nat) (Ap05 : Option Addr) (cp05 : Nat) (hp03 : SlR Rep.str M w0 Ap03 (t_.Vars).length cp03 (t_.Vars)) (hp04 : SlR REP M w0 Ap04 (t_.Rels).length cp04 (t_.Rels)) (hp05 : SlR RQeq M w0 Ap05 (t_.Cons).length cp05 (t_.Cons)) (t_' : (List Int)) (Ap11 : Option Addr) (cp11 : Nat) (hp11 : SlR (Rep.num .i64) M w0 Ap11 (t_').length cp11 (t_')) (r : Bool) (hg : r41_tree n t_ t_' = some r) :
    Calls Tryz.prog 39 [.agg #[.int .i64 (t_.Top), .int .i64 (t_.Index), .slice (Ap03) ((t_.Vars).length) (cp03), .slice (Ap04) ((t_.Rels).length) (cp04), .slice (Ap05) ((t_.Cons).length) (cp05)], .slice (Ap11) ((t_').length) (cp11)].toArray w0 (Ret noB w0 fun v w => v = .bool (r)) := by
 unfold r41_tree at hg
 refine enter M noB func39 rfl rfl hM ?_
 intro a s
 replace s := s.es 101 hp03
 replace s := s.es 102 hp04
 replace s := s.es 103 hp05
 replace s := s.es 104 hp11
 apply wR
 refine l_seq rfl (l_box (zs := [vI (t_.Top), vI (t_.Index), sl Ap03 (t_.Vars) cp03, sl Ap04 (t_.Rels) cp04, sl Ap05 (t_.Cons) cp05]) s 1000 rfl rfl rfl rfl fun b2 a w hb hK s => ?_)
 refine asg s rfl rfl fun a s => ?_
 apply wN
 apply wQ
 obtain ⟨r3, hr3, hg⟩ := bind_some hg
 apply wL
 refine qq s rfl (y_loadAll (kk := 1000) s rfl rfl underlying26 rfl rfl) fun a s => ?_
 refine mv s rfl rfl fun a s => ?_
 refine qq s rfl (y_boxField (o' := 0) s rfl underlying26 rfl rfl rfl) fun a s => ?_
 refine qq s rfl (y_loadBox1 (kk := 1000) s rfl rfl rfl underlying3 rfl) fun a s => ?_
 refine l_seq rfl (l_call (cap := []) s rfl func45 rfl (by kernel_rfl) rfl rfl (c_r41_at n _ _ s.lt t_ (Ap03) (cp03) (Ap04) (cp04) (Ap05) (cp05) (s.ft 101 rfl) (s.ft 102 rfl) (s.ft 103 rfl) t_' (Ap11) (cp11) (s.ft 104 rfl) t_.Top r3 hr3) fun v6 a w hK hp s => ?_)
 obtain rfl := hp
 refine asg s rfl rfl fun a s => ?_
 apply wN
 apply wQ
 apply wR
 refine mv s rfl rfl fun a s => ?_
 refine qq s rfl (y_lss s rfl rfl) fun a s => ?_
 apply wN
 refine c_dec s rfl (fun hc8 => ?_) (fun hc8 => ?_)
 ·replace hg := br_t hg hc8
  apply wR
  refine asg s rfl rfl fun a s => ?_
  apply wN
  apply wp_ret
  refine p_thenR ?_
  obtain rfl := Option.some.inj hg
  refine fin1 (fn := Tryz.f39) s rfl (r_tmp s rfl) ?_
  exact rfl
 replace hg := br_f hg hc8
 apply wp_skip
 apply pN
 apply wQ
 obtain ⟨r9, hr9, hg⟩ := bind_some hg
 apply wL
 refine qq s rfl (y_loadAll (kk := 1000) s rfl rfl underlying26 rfl rfl) fun a s => ?_
 refine l_seq rfl (l_call (cap := []) s rfl func15 rfl (by kernel_rfl) rfl rfl (c_r41_Labels n _ _ s.lt t_ (Ap03) (cp03) (Ap04) (cp04) (Ap05) (cp05) (s.ft 101 rfl) (s.ft 102 rfl) (s.ft 103 rfl) r9 hr9) fun v12 a w hK hp s => ?_)
 obtain ⟨Au13a1, cu13a1, rfl, hu13a1⟩ := hp
 replace s := s.ns 106 hu13a1
 refine asg s rfl rfl fun a s => ?_
 apply wN
 apply wQ
 obtain ⟨r14, hr14, hg⟩ := bind_some hg
 apply wL
 refine qq s rfl (y_loadAll (kk := 1000) s rfl rfl underlying26 rfl rfl) fun a s => ?_
 refine mv s rfl rfl fun a s => ?_
 refine mv s rfl rfl fun a s => ?_
 refine l_seq rfl (l_call (cap := []) s rfl func18 rfl (by kernel_rfl) rfl rfl (c_r41_Below n _ _ s.lt t_ (Ap03) (cp03) (Ap04) (cp04) (Ap05) (cp05) (s.ft 101 rfl) (s.ft 102 rfl) (s.ft 103 rfl) t_' (Ap11) (cp11) (s.ft 104 rfl) r3 r14 hr14) fun v17 a w hK hp s => ?_)
 obtain ⟨Au18a1, cu18a1, rfl, hu18a1⟩ := hp
 replace s := s.ns 108 hu18a1
 refine asg s rfl rfl fun a s => ?_
 apply wN
 apply wQ
 apply wR
 refine mv s rfl rfl fun a s => ?_
 refine qq s rfl (y_lenSlice s rfl underlying30) fun a s => ?_
 refine mv s rfl rfl fun a s => ?_
 refine qq s rfl (y_lenSlice s rfl underlying30) fun a s => ?_
 refine qq s rfl (y_neqN (i := ((r14).length)) (j := ((r9).length)) s rfl rfl) fun a s => ?_
 apply wN
 refine c_dec s rfl (fun hc19 => ?_) (fun hc19 => ?_)
 ·replace hg := br_t hg hc19
  apply wR
  refine asg s rfl rfl fun a s => ?_
  apply wN
  apply wp_ret
  refine p_thenR ?_
  obtain rfl := Option.some.inj hg
  refine fin1 (fn := Tryz.f39) s rfl (r_tmp s rfl) ?_
  exact rfl
 replace hg := br_f hg hc19
 apply wp_skip
 apply pN
 apply wR
 refine l_seq rfl (l_buildEmpty (sz := 1) s 1800 underlying30 rfl rfl rfl fun b21 a w hbb21 hK s => ?_)
 clear hbb21
 refine asg s rfl rfl fun a s => ?_
 apply wN
 apply wQ
 apply wR
 refine asg s rfl rfl fun a s => ?_
 apply wN
 apply wp_block
 replace s := s.add 111 (rdF (Rep.num .i64) ([]) ([])) (RdAll.nil _ _ _)
 replace s := s.al 110 111 rfl
 replace s := s.pk [(1000, 1000), (700109, 1800)] (by decide)
 refine c_loop (σ := Nat) (fun m1 a w => ∃ (t_22 : (List Int)) (t_26 : Nat) (A23 : Option Addr) (c24 : Nat) (cs25 : List Value), r41_tree_L0 n t_ t_' r3 r9 m1 t_22 t_26 = some r ∧ St (⟨Tryz.f39.ntmps, M, noB, w0⟩ : Ctx) [(1, sl Ap11 (t_') cp11), (2, vP b2 0), (5, vI r3), (6, sl Au13a1 (r9) cu13a1), (8, sl A23 (t_22) c24), (9, vI (((t_26 : Nat) : Int)))] [(1000, Ob.box b2 [vI (t_.Top), vI (t_.Index), sl Ap03 (t_.Vars) cp03, sl Ap04 (t_.Rels) cp04, sl Ap05 (t_.Cons) cp05] 26), (700109, Ob.row (A23) ((t_22).length) (c24) 3 1 (cs25))] [(101, slF Rep.str (Ap03) ((t_.Vars).length) (cp03) (t_.Vars)), (102, slF REP (Ap04) ((t_.Rels).length) (cp04) (t_.Rels)), (103, slF RQeq (Ap05) ((t_.Cons).length) (cp05) (t_.Cons)), (104, slF (Rep.num .i64) (Ap11) ((t_').length) (cp11) (t_')), (106, slF (Rep.num .i64) (Au13a1) ((r9).length) (cu13a1) (r9)), (110, rdF (Rep.num .i64) (cs25) (t_22))] a w) (fun m1 => m1) n ⟨([]), (0), (some ⟨b21, 0, none⟩), (0), ([]), hg, (s.sb rfl rfl rfl)⟩ ?_
 clear s a; rintro m1 a w ⟨t_22, t_26, A23, c24, cs25, hg, s⟩
 rcases m1 with _ | m1
 ·rw [r41_tree_L0] at hg; cases hg
 rw [r41_tree_L0] at hg
 apply wQ
 apply wR
 refine mv s rfl rfl fun a s => ?_
 refine mv s rfl rfl fun a s => ?_
 refine qq s rfl (y_lenSlice s rfl underlying30) fun a s => ?_
 refine qq s rfl (y_lssN (i := t_26) (j := ((r9).length)) s rfl rfl) fun a s => ?_
 apply wN
 refine c_dec s rfl (fun hc27 => ?_) (fun hc27 => ?_)
 ·replace hg := br_t hg hc27
  have hmx28 := SlR.mx (s.ft 106 rfl)
  apply wp_skip
  apply pN
  apply wQ
  obtain ⟨k29, hg, hk29⟩ := jn_some hg
  refine c_post (fun a w => ∃ (t_30 : (List Int)) (A31 : Option Addr) (c32 : Nat) (cs33 : List Value), k29 t_30 = some r ∧ St (⟨Tryz.f39.ntmps, M, noB, w0⟩ : Ctx) [(1, sl Ap11 (t_') cp11), (2, vP b2 0), (5, vI r3), (6, sl Au13a1 (r9) cu13a1), (8, sl A31 (t_30) c32), (9, vI (((t_26 : Nat) : Int)))] [(1000, Ob.box b2 [vI (t_.Top), vI (t_.Index), sl Ap03 (t_.Vars) cp03, sl Ap04 (t_.Rels) cp04, sl Ap05 (t_.Cons) cp05] 26), (700112, Ob.row (A31) ((t_30).length) (c32) 3 1 (cs33))] [(101, slF Rep.str (Ap03) ((t_.Vars).length) (cp03) (t_.Vars)), (102, slF REP (Ap04) ((t_.Rels).length) (cp04) (t_.Rels)), (103, slF RQeq (Ap05) ((t_.Cons).length) (cp05) (t_.Cons)), (104, slF (Rep.num .i64) (Ap11) ((t_').length) (cp11) (t_')), (106, slF (Rep.num .i64) (Au13a1) ((r9).length) (cu13a1) (r9)), (113, rdF (Rep.num .i64) (cs33) (t_30))] a w) ?_ ?_
  ·apply wp_block
   apply wQ
   obtain ⟨x35, hx35, hg⟩ := bind_some hg
   obtain ⟨r37, hr37, hg⟩ := bind_some hg
   refine d_plan s [] [(0, some 1000), (1, some 0), (2, some 0), (3, some 0), (4, some 0), (5, some 0), (6, none), (7, none)] rfl (by kernel_rfl) (by kernel_rfl) rfl ?_; clear s; intro wr hZ s; have hR := s.wd
   refine qt s hR rfl (y_loadAll (kk := 1000) s rfl rfl underlying26 rfl rfl) fun a s => ?_
   refine qt s hR rfl (y_move s rfl) fun a s => ?_
   refine qt s hR rfl (y_move s rfl) fun a s => ?_
   refine qt s hR rfl (y_move s rfl) fun a s => ?_
   obtain ⟨p40, hep40, hpp40⟩ := SlR.elemX (s.ft 106 rfl) hx35
   refine qt s hR rfl (y_elem (sz := 1) (i := t_26) s rfl rfl underlying30 rfl hep40 rfl (lt_of_get hx35)) fun a s => ?_
   obtain ⟨hlq41, hmq41, csq41, hdq41, hcq41⟩ := hpp40
   obtain rfl := hdq41
   refine qt s hR rfl (y_ldp1 s rfl hlq41 hmq41 (hcq41 0 _ rfl) underlying3 rfl) fun a s => ?_
   refine l_take s rfl rfl (l_call (cap := []) s rfl func35 rfl (by kernel_rfl) rfl rfl (c_r41_children n _ _ s.lt t_ (Ap03) (cp03) (Ap04) (cp04) (Ap05) (cp05) (s.ft 101 rfl) (s.ft 102 rfl) (s.ft 103 rfl) t_' (Ap11) (cp11) (s.ft 104 rfl) x35 r37 hr37) fun v42 a w hK hp s => ?_)
   replace hZ := Nat.le_trans hZ hK.size; refine ⟨fun g _ h => h.grow hK, ?_⟩; clear hK
   obtain ⟨Au43a1, cu43a1, rfl, hu43a1⟩ := hp
   replace s := s.ns 115 hu43a1
   refine l_take s rfl rfl (l_quiet s rfl rfl (y_assign s rfl) fun a s => ?_); refine ⟨fun g _ h => h, ?_⟩
   clear hR hZ
   apply pN
   apply wR
   refine asg s rfl rfl fun a s => ?_
   apply wN
   apply wp_block
   replace s := s.al 117 110 rfl
   replace s := s.pk [(1000, 1000), (700116, 700109)] (by decide)
   refine c_loop (σ := Nat) (fun m2 a w => ∃ (t_44 : (List Int)) (t_48 : Nat) (A45 : Option Addr) (c46 : Nat) (cs47 : List Value), r41_tree_L1 n r3 k29 r37 m2 t_44 t_48 = some r ∧ St (⟨Tryz.f39.ntmps, M, noB, w0⟩ : Ctx) [(1, sl Ap11 (t_') cp11), (2, vP b2 0), (5, vI r3), (6, sl Au13a1 (r9) cu13a1), (8, sl A45 (t_44) c46), (9, vI (((t_26 : Nat) : Int))), (10, sl Au43a1 (r37) cu43a1), (11, vI (((t_48 : Nat) : Int)))] [(1000, Ob.box b2 [vI (t_.Top), vI (t_.Index), sl Ap03 (t_.Vars) cp03, sl Ap04 (t_.Rels) cp04, sl Ap05 (t_.Cons) cp05] 26), (700116, Ob.row (A45) ((t_44).length) (c46) 3 1 (cs47))] [(101, slF Rep.str (Ap03) ((t_.Vars).length) (cp03) (t_.Vars)), (102, slF REP (Ap04) ((t_.Rels).length) (cp04) (t_.Rels)), (103, slF RQeq (Ap05) ((t_.Cons).length) (cp05) (t_.Cons)), (104, slF (Rep.num .i64) (Ap11) ((t_').length) (cp11) (t_')), (106, slF (Rep.num .i64) (Au13a1) ((r9).length) (cu13a1) (r9)), (115, slF (Rep.num .i64) (Au43a1) ((r37).length) (cu43a1) (r37)), (117, rdF (Rep.num .i64) (cs47) (t_44))] a w) (fun m2 => m2) n ⟨(t_22), (0), (A23), (c24), (cs25), hg, (s.sb rfl rfl rfl)⟩ ?_
   clear s a; rintro m2 a w ⟨t_44, t_48, A45, c46, cs47, hg, s⟩
   rcases m2 with _ | m2
   ·rw [r41_tree_L1] at hg; cases hg
   rw [r41_tree_L1] at hg
   apply wQ
   apply wR
   refine mv s rfl rfl fun a s => ?_
   refine mv s rfl rfl fun a s => ?_
   refine qq s rfl (y_lenSlice s rfl underlying30) fun a s => ?_
   refine qq s rfl (y_lssN (i := t_48) (j := ((r37).length)) s rfl rfl) fun a s => ?_
   apply wN
   refine c_dec s rfl (fun hc49 => ?_) (fun hc49 => ?_)
   ·replace hg := br_t hg hc49
    have hmx50 := SlR.mx (s.ft 115 rfl)
    apply wp_skip
    apply pN
    apply wQ
    apply wp_block
    apply wQ
    apply wQ
    obtain ⟨k51, hg, hk51⟩ := jn_some hg
    refine c_post (fun a w => ∃ (t_52 : Bool), k51 t_52 = some r ∧ St (⟨Tryz.f39.ntmps, M, noB, w0⟩ : Ctx) [(1, sl Ap11 (t_') cp11), (2, vP b2 0), (5, vI r3), (6, sl Au13a1 (r9) cu13a1), (8, sl A45 (t_44) c46), (9, vI (((t_26 : Nat) : Int))), (10, sl Au43a1 (r37) cu43a1), (11, vI (((t_48 : Nat) : Int))), (63, .bool (t_52))] [(1000, Ob.box b2 [vI (t_.Top), vI (t_.Index), sl Ap03 (t_.Vars) cp03, sl Ap04 (t_.Rels) cp04, sl Ap05 (t_.Cons) cp05] 26), (700116, Ob.row (A45) ((t_44).length) (c46) 3 1 (cs47))] [(101, slF Rep.str (Ap03) ((t_.Vars).length) (cp03) (t_.Vars)), (102, slF REP (Ap04) ((t_.Rels).length) (cp04) (t_.Rels)), (103, slF RQeq (Ap05) ((t_.Cons).length) (cp05) (t_.Cons)), (104, slF (Rep.num .i64) (Ap11) ((t_').length) (cp11) (t_')), (106, slF (Rep.num .i64) (Au13a1) ((r9).length) (cu13a1) (r9)), (115, slF (Rep.num .i64) (Au43a1) ((r37).length) (cu43a1) (r37)), (117, rdF (Rep.num .i64) (cs47) (t_44))] a w) ?_ ?_
    ·obtain ⟨x54, hx54, hg⟩ := bind_some hg
     rcases Decidable.em (x54 = r3) with hs56 | hs56
     ·have hs56e := decide_eq_true hs56
      replace hg := br_t hg hs56
      apply wL
      refine mv s rfl rfl fun a s => ?_
      refine mv s rfl rfl fun a s => ?_
      obtain ⟨p57, hep57, hpp57⟩ := SlR.elemX (s.ft 115 rfl) hx54
      refine qq s rfl (y_elem (sz := 1) (i := t_48) s rfl rfl underlying30 rfl hep57 rfl (lt_of_get hx54)) fun a s => ?_
      obtain ⟨hlq58, hmq58, csq58, hdq58, hcq58⟩ := hpp57
      obtain rfl := hdq58
      refine qq s rfl (y_ldp1 s rfl hlq58 hmq58 (hcq58 0 _ rfl) underlying3 rfl) fun a s => ?_
      refine mv s rfl rfl fun a s => ?_
      refine qq s rfl (yl_b (y_eql s rfl rfl) hs56e) fun a s => ?_
      refine mv s rfl rfl fun a s => ?_
      refine gn s rfl fun a s => ?_
      refine gn s rfl fun a s => ?_
      refine gn s rfl fun a s => ?_
      refine gn s rfl fun a s => ?_
      refine gn s rfl fun a s => ?_
      refine gn s rfl fun a s => ?_
      refine qq s rfl (y_pick_t s rfl rfl) fun a s => ?_
      apply wN
      exact ⟨(true), hg, (s.sb rfl rfl rfl)⟩
     have hs56e := decide_eq_false hs56
     replace hg := br_f hg hs56
     obtain ⟨r61, hr61, hg⟩ := bind_some hg
     apply wL
     refine mv s rfl rfl fun a s => ?_
     refine mv s rfl rfl fun a s => ?_
     obtain ⟨p64, hep64, hpp64⟩ := SlR.elemX (s.ft 115 rfl) hx54
     refine qq s rfl (y_elem (sz := 1) (i := t_48) s rfl rfl underlying30 rfl hep64 rfl (lt_of_get hx54)) fun a s => ?_
     obtain ⟨hlq65, hmq65, csq65, hdq65, hcq65⟩ := hpp64
     obtain rfl := hdq65
     refine qq s rfl (y_ldp1 s rfl hlq65 hmq65 (hcq65 0 _ rfl) underlying3 rfl) fun a s => ?_
     refine mv s rfl rfl fun a s => ?_
     refine qq s rfl (yl_b (y_eql s rfl rfl) hs56e) fun a s => ?_
     refine mv s rfl rfl fun a s => ?_
     refine gm s rfl rfl fun a s => ?_
     refine gm s rfl rfl fun a s => ?_
     refine gm s rfl rfl fun a s => ?_
     obtain ⟨p66, hep66, hpp66⟩ := SlR.elemX (s.ft 115 rfl) hx54
     refine gy s rfl (y_elem (sz := 1) (i := t_48) s rfl rfl underlying30 rfl hep66 rfl (lt_of_get hx54)) fun a s => ?_
     obtain ⟨hlq67, hmq67, csq67, hdq67, hcq67⟩ := hpp66
     obtain rfl := hdq67
     refine gy s rfl (y_ldp1 s rfl hlq67 hmq67 (hcq67 0 _ rfl) underlying3 rfl) fun a s => ?_
     have hT := s
     replace hT := hT.fz (R := (Rep.num .i64)) (kk := 700116) [1000] 119 rfl rfl (hT.ft 117 rfl) rfl
     refine gl s rfl (l_call (cap := []) s rfl func23 rfl (by kernel_rfl) rfl rfl (c_r41_Has n _ _ hT.lt t_44 (A45) (c46) (hT.ft 119 rfl) x54 r61 hr61) fun v68 a w hK hp s => ?_)
     obtain rfl := hp
     refine qq s rfl (y_pick_f s rfl rfl) fun a s => ?_
     apply wN
     exact ⟨(r61), hg, (s.sb rfl rfl rfl)⟩
    clear s a; rintro a w ⟨t_52, hg, s⟩
    subst hk51
    refine c_cond s rfl (fun hc70 => ?_) (fun hc70 => ?_)
    ·replace hg := br_t hg hc70
     apply wR
     refine asg s rfl rfl fun a s => ?_
     apply wN
     apply wp_ret
     refine p_thenR ?_
     refine p_inR ?_
     refine p_thenR ?_
     refine p_thenR ?_
     refine p_inR ?_
     refine p_inR ?_
     refine p_thenR ?_
     refine p_thenR ?_
     refine p_inR ?_
     refine p_thenR ?_
     obtain rfl := Option.some.inj hg
     refine fin1 (fn := Tryz.f39) s rfl (r_tmp s rfl) ?_
     exact rfl
    replace hg := br_n hg hc70
    apply wp_skip
    apply pN
    obtain ⟨x72, hx72, hg⟩ := bind_some hg
    obtain ⟨hk75, hg⟩ := chk_some hg
    apply wL
    refine mv s rfl rfl fun a s => ?_
    refine mv s rfl rfl fun a s => ?_
    refine mv s rfl rfl fun a s => ?_
    obtain ⟨p78, hep78, hpp78⟩ := SlR.elemX (s.ft 115 rfl) hx72
    refine qq s rfl (y_elem (sz := 1) (i := t_48) s rfl rfl underlying30 rfl hep78 rfl (lt_of_get hx72)) fun a s => ?_
    obtain ⟨hlq79, hmq79, csq79, hdq79, hcq79⟩ := hpp78
    obtain rfl := hdq79
    refine qq s rfl (y_ldp1 s rfl hlq79 hmq79 (hcq79 0 _ rfl) underlying3 rfl) fun a s => ?_
    refine l_seq rfl (l_buildDense (sz := 1) s 2805 rfl rfl rfl underlying30 rfl rfl rfl rfl rfl rfl rfl fun b80 a w hbb80 hK s => ?_)
    clear hbb80
    replace s := s.add 122 (rdF (Rep.num .i64) (cellsOfL [vI x72]) ([x72])) (RdAll.cons (by exact rfl) (RdAll.nil _ _ _))
    have hs82 := row_src (s.wd.holds 2805 _ rfl) (RdAll.one (s.ft 122 rfl))
    refine l_seq rfl (l_append (sz := 1) (by_ := 8) (N := (t_44 ++ [x72]).length) (ys := cs47 ++ (cellsOfL [vI x72])) s 700116 rfl rfl rfl underlying30 rfl rfl rfl rfl rfl hs82 (by simp) rfl (by have hr := hk75; clear hg; first | omega | (simp only [List.length_append, List.length_cons, List.length_nil] at hr ⊢; omega) | (simp at hr ⊢; omega)) (by have hr := hk75; clear hg; first | omega | (simp only [List.length_append, List.length_cons, List.length_nil] at hr ⊢; omega) | (simp at hr ⊢; omega)) rfl fun Aq81 cq81 a w hA hK s => ?_)
    replace s := s.add 123 (rdF (Rep.num .i64) (cs47 ++ (cellsOfL [vI x72])) (t_44 ++ [x72])) (RdAll.append (s.ft 117 rfl) (s.ft 122 rfl))
    refine asg s rfl rfl fun a s => ?_
    apply wO
    refine p_inN ?_
    apply pN
    apply wL
    refine mv s rfl rfl fun a s => ?_
    refine qq s rfl (y_addN (i := t_48) (j := 1) s rfl rfl (in64.2 (by omega))) fun a s => ?_
    refine asg s rfl rfl fun a s => ?_
    apply wN
    replace s := s.al 117 123 rfl
    exact ⟨m2, Nat.lt_succ_self _, ⟨(t_44 ++ [x72]), (t_48 + 1), (Aq81), (cq81), (cs47 ++ (cellsOfL [vI x72])), hg, (s.sb rfl rfl rfl)⟩⟩
   replace hg := br_f hg hc49
   apply wp_exit
   refine p_then ?_
   refine p_then ?_
   refine p_in ?_
   refine p_inN ?_
   apply pN
   replace s := s.al 113 117 rfl
   replace s := s.pk [(1000, 1000), (700112, 700116)] (by decide)
   exact ⟨(t_44), (A45), (c46), (cs47), hg, (s.sb rfl rfl rfl)⟩
  clear s a; rintro a w ⟨t_30, A31, c32, cs33, hg, s⟩
  subst hk29
  apply wL
  refine mv s rfl rfl fun a s => ?_
  refine qq s rfl (y_addN (i := t_26) (j := 1) s rfl rfl (in64.2 (by omega))) fun a s => ?_
  refine asg s rfl rfl fun a s => ?_
  apply wN
  replace s := s.al 110 113 rfl
  replace s := s.pk [(1000, 1000), (700109, 700112)] (by decide)
  exact ⟨m1, Nat.lt_succ_self _, ⟨(t_30), (t_26 + 1), (A31), (c32), (cs33), hg, (s.sb rfl rfl rfl)⟩⟩
 replace hg := br_f hg hc27
 apply wp_exit
 refine p_then ?_
 refine p_then ?_
 refine p_in ?_
 apply pN
 apply wR
 refine asg s rfl rfl fun a s => ?_
 apply wN
 apply wp_ret
 obtain rfl := Option.some.inj hg
 refine fin1 (fn := Tryz.f39) s rfl (r_tmp s rfl) ?_
 exact rfl
set_option maxHeartbeats 400000 in
theorem c_r41_role (n : Nat) (M : Bs) (w0 : World) (hM : ∀ b, M b → b < w0.heap.size) (e_ : EP) (Ap03 : Option Addr) (cp03 : Nat) (lp01 : (e_.Pred).length ≤ 9223372036854775807) (hp03 : SlR RArg M w0 Ap03 (e_.Args).length cp03 (e_.Args)) (name_ : (List UInt8)) (lp11 : (name_).length ≤ 9223372036854775807) (r : Int) (hg : r41_role n e_ name_ = some r) :
    Calls Tryz.prog 57 [.agg #[.string (bs (e_.Pred)), .int .i64 (e_.Label), .slice (Ap03) ((e_.Args).length) (cp03)], .string (bs (name_))].toArray w0 (Ret noB w0 fun v w => v = .int .i64 (r)) := by
 unfold r41_role at hg
 refine enter M noB func57 rfl rfl hM ?_
 intro a s
 replace s := s.es 101 hp03
 apply wR
 refine l_seq rfl (l_box (zs := [vT (e_.Pred), vI (e_.Label), sl Ap03 (e_.Args) cp03]) s 1000 rfl rfl rfl rfl fun b2 a w hb hK s => ?_)
 refine asg s rfl rfl fun a s => ?_
 apply wN
 apply wQ
 apply wR
 refine asg s rfl rfl fun a s => ?_
 apply wN
 apply wp_block
 refine c_loop (σ := Nat) (fun m1 a w => ∃ (i_3 : Nat), r41_role_L0 n e_ name_ m1 i_3 = some r ∧ St (⟨Tryz.f57.ntmps, M, noB, w0⟩ : Ctx) [(1, vT name_), (2, vP b2 0), (5, vI (((i_3 : Nat) : Int)))] [(1000, Ob.box b2 [vT (e_.Pred), vI (e_.Label), sl Ap03 (e_.Args) cp03] 43)] [(101, slF RArg (Ap03) ((e_.Args).length) (cp03) (e_.Args))] a w) (fun m1 => m1) n ⟨(0), hg, (s.sb rfl rfl rfl)⟩ ?_
 clear s a; rintro m1 a w ⟨i_3, hg, s⟩
 rcases m1 with _ | m1
 ·rw [r41_role_L0] at hg; cases hg
 rw [r41_role_L0] at hg
 apply wQ
 apply wR
 refine mv s rfl rfl fun a s => ?_
 refine qq s rfl (y_boxField (o' := 2) s rfl underlying43 rfl rfl rfl) fun a s => ?_
 refine qq s rfl (y_loadBox1 (kk := 1000) s rfl rfl rfl underlying41 rfl) fun a s => ?_
 refine qq s rfl (y_lenSlice s rfl underlying41) fun a s => ?_
 refine qq s rfl (y_lssN (i := i_3) (j := ((e_.Args).length)) s rfl rfl) fun a s => ?_
 apply wN
 refine c_dec s rfl (fun hc4 => ?_) (fun hc4 => ?_)
 ·replace hg := br_t hg hc4
  have hmx5 := SlR.mx (s.ft 101 rfl)
  apply wp_skip
  apply pN
  apply wQ
  apply wp_block
  apply wQ
  obtain ⟨x7, hx7, hg⟩ := bind_some hg
  apply wL
  refine qq s rfl (y_boxField (o' := 2) s rfl underlying43 rfl rfl rfl) fun a s => ?_
  refine qq s rfl (y_loadBox1 (kk := 1000) s rfl rfl rfl underlying41 rfl) fun a s => ?_
  refine mv s rfl rfl fun a s => ?_
  obtain ⟨p9, hep9, hpp9⟩ := SlR.elemX (s.ft 101 rfl) hx7
  refine qq s rfl (y_elem (sz := 2) (i := i_3) s rfl rfl underlying41 rfl hep9 rfl (lt_of_get hx7)) fun a s => ?_
  refine qq s rfl (y_ptrField (o' := 0) s rfl underlying45 rfl rfl rfl) fun a s => ?_
  obtain ⟨hlq10, hmq10, csq10, hdq10, hcq10⟩ := hpp9
  obtain ⟨rfl, lq101⟩ := RArg.open hdq10
  refine qq s rfl (y_ldp1 s rfl hlq10 hmq10 (hcq10 0 _ rfl) underlying9 rfl) fun a s => ?_
  refine mv s rfl rfl fun a s => ?_
  refine qq s rfl (y_seq s rfl rfl) fun a s => ?_
  apply wN
  refine c_dec s rfl (fun hc11 => ?_) (fun hc11 => ?_)
  ·replace hg := br_t hg hc11
   apply wR
   refine qq s rfl (y_boxField (o' := 2) s rfl underlying43 rfl rfl rfl) fun a s => ?_
   refine qq s rfl (y_loadBox1 (kk := 1000) s rfl rfl rfl underlying41 rfl) fun a s => ?_
   refine mv s rfl rfl fun a s => ?_
   obtain ⟨p14, hep14, hpp14⟩ := SlR.elemX (s.ft 101 rfl) hx7
   refine qq s rfl (y_elem (sz := 2) (i := i_3) s rfl rfl underlying41 rfl hep14 rfl (lt_of_get hx7)) fun a s => ?_
   refine qq s rfl (y_ptrField (o' := 1) s rfl underlying45 rfl rfl rfl) fun a s => ?_
   obtain ⟨hlq15, hmq15, csq15, hdq15, hcq15⟩ := hpp14
   obtain ⟨rfl, lq151⟩ := RArg.open hdq15
   refine qq s rfl (y_ldp1 s rfl hlq15 hmq15 (hcq15 1 _ rfl) underlying3 rfl) fun a s => ?_
   refine asg s rfl rfl fun a s => ?_
   apply wN
   apply wp_ret
   refine p_inR ?_
   refine p_thenR ?_
   refine p_thenR ?_
   refine p_inR ?_
   refine p_thenR ?_
   obtain rfl := Option.some.inj hg
   refine fin1 (fn := Tryz.f57) s rfl (r_tmp s rfl) ?_
   exact rfl
  replace hg := br_f hg hc11
  apply wp_skip
  refine p_inN ?_
  apply pN
  apply wL
  refine mv s rfl rfl fun a s => ?_
  refine qq s rfl (y_addN (i := i_3) (j := 1) s rfl rfl (in64.2 (by omega))) fun a s => ?_
  refine asg s rfl rfl fun a s => ?_
  apply wN
  exact ⟨m1, Nat.lt_succ_self _, ⟨(i_3 + 1), hg, (s.sb rfl rfl rfl)⟩⟩
 replace hg := br_f hg hc4
 apply wp_exit
 refine p_then ?_
 refine p_then ?_
 refine p_in ?_
 apply pN
 apply wR
 refine asg s rfl rfl fun a s => ?_
 apply wN
 apply wp_ret
 obtain rfl := Option.some.inj hg
 refine fin1 (fn := Tryz.f57) s rfl (r_tmp s rfl) ?_
 exact rfl
set_option maxHeartbeats 400000 in
theorem c_r41_quantifier (n : Nat) (M : Bs) (w0 : World) (hM : ∀ b, M b → b < w0.heap.size) (e_ : EP) (Ap03 : Option Addr) (cp03 : Nat) (lp01 : (e_.Pred).length ≤ 9223372036854775807) (hp03 : SlR RArg M w0 Ap03 (e_.Args).length cp03 (e_.Args)) (r : Bool) (hg : r41_quantifier n e_ = some r) :
    Calls Tryz.prog 41 [.agg #[.string (bs (e_.Pred)), .int .i64 (e_.Label), .slice (Ap03) ((e_.Args).length) (cp03)]].toArray w0 (Ret noB w0 fun v w => v = .bool (r)) := by
 unfold r41_quantifier at hg
 refine enter M noB func41 rfl rfl hM ?_
 intro a s
 replace s := s.es 101 hp03
 apply wR
 refine l_seq rfl (l_box (zs := [vT (e_.Pred), vI (e_.Label), sl Ap03 (e_.Args) cp03]) s 1000 rfl rfl rfl rfl fun b2 a w hb hK s => ?_)
 refine asg s rfl rfl fun a s => ?_
 apply wN
 apply wQ
 obtain ⟨r3, hr3, hg⟩ := bind_some hg
 rcases Decidable.em ((0 : Int) ≤ r3) with hs6 | hs6
 ·have hs6e := decide_eq_true hs6
  replace hg := br_t hg hs6
  obtain ⟨r7, hr7, hg⟩ := bind_some hg
  apply wL
  refine qq s rfl (y_loadAll (kk := 1000) s rfl rfl underlying43 rfl rfl) fun a s => ?_
  refine l_seq rfl (l_call (cap := []) s rfl func57 rfl (by kernel_rfl) rfl rfl (c_r41_role n _ _ s.lt e_ (Ap03) (cp03) (by omega) (s.ft 101 rfl) [66, 79, 68, 89] (by first | omega | (rw [List.length_append]; omega) | (simp only [List.length_append]; omega) | (simp only [List.length_append, List.length_take, List.length_drop, List.length_cons, List.length_nil]; omega)) r3 hr3) fun v10 a w hK hp s => ?_)
  obtain rfl := hp
  refine qq s rfl (yl_b (y_geq s rfl rfl) hs6e) fun a s => ?_
  refine mv s rfl rfl fun a s => ?_
  refine gy s rfl (y_loadAll (kk := 1000) s rfl rfl underlying43 rfl rfl) fun a s => ?_
  refine gl s rfl (l_call (cap := []) s rfl func57 rfl (by kernel_rfl) rfl rfl (c_r41_role n _ _ s.lt e_ (Ap03) (cp03) (by omega) (s.ft 101 rfl) [82, 83, 84, 82] (by first | omega | (rw [List.length_append]; omega) | (simp only [List.length_append]; omega) | (simp only [List.length_append, List.length_take, List.length_drop, List.length_cons, List.length_nil]; omega)) r7 hr7) fun v12 a w hK hp s => ?_)
  obtain rfl := hp
  refine gy s rfl (y_geq s rfl rfl) fun a s => ?_
  refine qq s rfl (y_pick_t s rfl rfl) fun a s => ?_
  refine asg s rfl rfl fun a s => ?_
  apply wN
  apply wp_ret
  obtain rfl := Option.some.inj hg
  refine fin1 (fn := Tryz.f41) s rfl (r_tmp s rfl) ?_
  exact rfl
 have hs6e := decide_eq_false hs6
 replace hg := br_f hg hs6
 apply wL
 refine qq s rfl (y_loadAll (kk := 1000) s rfl rfl underlying43 rfl rfl) fun a s => ?_
 refine l_seq rfl (l_call (cap := []) s rfl func57 rfl (by kernel_rfl) rfl rfl (c_r41_role n _ _ s.lt e_ (Ap03) (cp03) (by omega) (s.ft 101 rfl) [66, 79, 68, 89] (by first | omega | (rw [List.length_append]; omega) | (simp only [List.length_append]; omega) | (simp only [List.length_append, List.length_take, List.length_drop, List.length_cons, List.length_nil]; omega)) r3 hr3) fun v14 a w hK hp s => ?_)
 obtain rfl := hp
 refine qq s rfl (yl_b (y_geq s rfl rfl) hs6e) fun a s => ?_
 refine mv s rfl rfl fun a s => ?_
 refine gn s rfl fun a s => ?_
 refine gn s rfl fun a s => ?_
 refine gn s rfl fun a s => ?_
 refine qq s rfl (y_pick_f s rfl rfl) fun a s => ?_
 refine asg s rfl rfl fun a s => ?_
 apply wN
 apply wp_ret
 obtain rfl := Option.some.inj hg
 refine fin1 (fn := Tryz.f41) s rfl (r_tmp s rfl) ?_
 exact rfl
set_option maxHeartbeats 400000 in
theorem c_r41_reaches (n : Nat) : ∀ (M : Bs) (w0 : World) (hM : ∀ b, M b → b < w0.heap.size) (m_ : MRS) (Ap03 : Option Addr) (cp03 : Nat) (Ap04 : Option Addr) (cp04 : Nat) (Ap05 : Option Addr) (cp05 : Nat) (hp03 : SlR Rep.str M w0 Ap03 (m_.Vars).length cp03 (m_.Vars)) (hp04 : SlR REP M w0 Ap04 (m_.Rels).length cp04 (m_.Rels)) (hp05 : SlR RQeq M w0 Ap05 (m_.Cons).length cp05 (m_.Cons)) (plug_ : (List Int)) (Ap11 : Option Addr) (cp11 : Nat) (hp11 : SlR (Rep.num .i64) M w0 Ap11 (plug_).length cp11 (plug_)) (high_ : Int) (low_ : Int) (steps_ : Int) (r : Bool) (hg : r41_reaches n m_ plug_ high_ low_ steps_ = some r),
    Calls Tryz.prog 40 [.agg #[.int .i64 (m_.Top), .int .i64 (m_.Index), .slice (Ap03) ((m_.Vars).length) (cp03), .slice (Ap04) ((m_.Rels).length) (cp04), .slice (Ap05) ((m_.Cons).length) (cp05)], .slice (Ap11) ((plug_).length) (cp11), .int .i64 (high_), .int .i64 (low_), .int .i64 (steps_)].toArray w0 (Ret noB w0 fun v w => v = .bool (r)) := by
 induction n with
 | zero => intros; rename_i hg; rw [r41_reaches] at hg; cases hg
 | succ n c_self =>
 intro M w0 hM m_ Ap03 cp03 Ap04 cp04 Ap05 cp05 hp03 hp04 hp05 plug_ Ap11 cp11 hp11 high_ low_ steps_ r hg
 rw [r41_reaches] at hg
 refine enter M noB func40 rfl rfl hM ?_
 intro a s
 replace s := s.es 101 hp03
 replace s := s.es 102 hp04
 replace s := s.es 103 hp05
 replace s := s.es 104 hp11
 apply wR
 refine l_seq rfl (l_box (zs := [vI (m_.Top), vI (m_.Index), sl Ap03 (m_.Vars) cp03, sl Ap04 (m_.Rels) cp04, sl Ap05 (m_.Cons) cp05]) s 1000 rfl rfl rfl rfl fun b2 a w hb hK s => ?_)
 refine asg s rfl rfl fun a s => ?_
 apply wN
 apply wQ
 obtain ⟨r3, hr3, hg⟩ := bind_some hg
 apply wL
 refine qq s rfl (y_loadAll (kk := 1000) s rfl rfl underlying26 rfl rfl) fun a s => ?_
 refine mv s rfl rfl fun a s => ?_
 refine mv s rfl rfl fun a s => ?_
 refine l_seq rfl (l_call (cap := []) s rfl func45 rfl (by kernel_rfl) rfl rfl (c_r41_at n _ _ s.lt m_ (Ap03) (cp03) (Ap04) (cp04) (Ap05) (cp05) (s.ft 101 rfl) (s.ft 102 rfl) (s.ft 103 rfl) plug_ (Ap11) (cp11) (s.ft 104 rfl) high_ r3 hr3) fun v6 a w hK hp s => ?_)
 obtain rfl := hp
 refine asg s rfl rfl fun a s => ?_
 apply wN
 apply wQ
 apply wQ
 obtain ⟨k8, hg, hk8⟩ := jn_some hg
 refine c_post (fun a w => ∃ (t_9 : Bool), k8 t_9 = some r ∧ St (⟨Tryz.f40.ntmps, M, noB, w0⟩ : Ctx) [(1, sl Ap11 (plug_) cp11), (3, vI low_), (4, vI steps_), (5, vP b2 0), (11, vI r3), (22, .bool (t_9))] [(1000, Ob.box b2 [vI (m_.Top), vI (m_.Index), sl Ap03 (m_.Vars) cp03, sl Ap04 (m_.Rels) cp04, sl Ap05 (m_.Cons) cp05] 26)] [(101, slF Rep.str (Ap03) ((m_.Vars).length) (cp03) (m_.Vars)), (102, slF REP (Ap04) ((m_.Rels).length) (cp04) (m_.Rels)), (103, slF RQeq (Ap05) ((m_.Cons).length) (cp05) (m_.Cons)), (104, slF (Rep.num .i64) (Ap11) ((plug_).length) (cp11) (plug_))] a w) ?_ ?_
 ·rcases Decidable.em (r3 < 0) with hs10 | hs10
  ·have hs10e := decide_eq_true hs10
   replace hg := br_t hg hs10
   apply wL
   refine mv s rfl rfl fun a s => ?_
   refine qq s rfl (yl_b (y_lss s rfl rfl) hs10e) fun a s => ?_
   refine mv s rfl rfl fun a s => ?_
   refine gn s rfl fun a s => ?_
   refine gn s rfl fun a s => ?_
   refine qq s rfl (y_pick_t s rfl rfl) fun a s => ?_
   apply wN
   exact ⟨(true), hg, (s.sb rfl rfl rfl)⟩
  have hs10e := decide_eq_false hs10
  replace hg := br_f hg hs10
  apply wL
  refine mv s rfl rfl fun a s => ?_
  refine qq s rfl (yl_b (y_lss s rfl rfl) hs10e) fun a s => ?_
  refine mv s rfl rfl fun a s => ?_
  refine gm s rfl rfl fun a s => ?_
  refine gy s rfl (y_leq s rfl rfl) fun a s => ?_
  refine qq s rfl (y_pick_f s rfl rfl) fun a s => ?_
  apply wN
  exact ⟨(decide (steps_ ≤ 0)), hg, (s.sb rfl rfl rfl)⟩
 clear s a; rintro a w ⟨t_9, hg, s⟩
 subst hk8
 refine c_cond s rfl (fun hc11 => ?_) (fun hc11 => ?_)
 ·replace hg := br_t hg hc11
  apply wR
  refine asg s rfl rfl fun a s => ?_
  apply wN
  apply wp_ret
  refine p_thenR ?_
  obtain rfl := Option.some.inj hg
  refine fin1 (fn := Tryz.f40) s rfl (r_tmp s rfl) ?_
  exact rfl
 replace hg := br_n hg hc11
 apply wp_skip
 apply pN
 apply wQ
 apply wR
 refine mv s rfl rfl fun a s => ?_
 refine mv s rfl rfl fun a s => ?_
 refine qq s rfl (y_eql s rfl rfl) fun a s => ?_
 apply wN
 refine c_dec s rfl (fun hc12 => ?_) (fun hc12 => ?_)
 ·replace hg := br_t hg hc12
  apply wR
  refine asg s rfl rfl fun a s => ?_
  apply wN
  apply wp_ret
  refine p_thenR ?_
  obtain rfl := Option.some.inj hg
  refine fin1 (fn := Tryz.f40) s rfl (r_tmp s rfl) ?_
  exact rfl
 replace hg := br_f hg hc12
 apply wp_skip
 apply pN
 apply wQ
 apply wR
 refine asg s rfl rfl fun a s => ?_
 apply wN
 apply wp_block
 refine c_loop (σ := Nat) (fun m1 a w => ∃ (i_13 : Nat), r41_reaches_L0 n m_ plug_ low_ steps_ (r41_reaches n) r3 m1 i_13 = some r ∧ St (⟨Tryz.f40.ntmps, M, noB, w0⟩ : Ctx) [(1, sl Ap11 (plug_) cp11), (3, vI low_), (4, vI steps_), (5, vP b2 0), (11, vI r3), (12, vI (((i_13 : Nat) : Int)))] [(1000, Ob.box b2 [vI (m_.Top), vI (m_.Index), sl Ap03 (m_.Vars) cp03, sl Ap04 (m_.Rels) cp04, sl Ap05 (m_.Cons) cp05] 26)] [(101, slF Rep.str (Ap03) ((m_.Vars).length) (cp03) (m_.Vars)), (102, slF REP (Ap04) ((m_.Rels).length) (cp04) (m_.Rels)), (103, slF RQeq (Ap05) ((m_.Cons).length) (cp05) (m_.Cons)), (104, slF (Rep.num .i64) (Ap11) ((plug_).length) (cp11) (plug_))] a w) (fun m1 => m1) n ⟨(0), hg, (s.sb rfl rfl rfl)⟩ ?_
 clear s a; rintro m1 a w ⟨i_13, hg, s⟩
 rcases m1 with _ | m1
 ·rw [r41_reaches_L0] at hg; cases hg
 rw [r41_reaches_L0] at hg
 apply wQ
 apply wR
 refine mv s rfl rfl fun a s => ?_
 refine qq s rfl (y_boxField (o' := 3) s rfl underlying26 rfl rfl rfl) fun a s => ?_
 refine qq s rfl (y_loadBox1 (kk := 1000) s rfl rfl rfl underlying23 rfl) fun a s => ?_
 refine qq s rfl (y_lenSlice s rfl underlying23) fun a s => ?_
 refine qq s rfl (y_lssN (i := i_13) (j := ((m_.Rels).length)) s rfl rfl) fun a s => ?_
 apply wN
 refine c_dec s rfl (fun hc14 => ?_) (fun hc14 => ?_)
 ·replace hg := br_t hg hc14
  have hmx15 := SlR.mx (s.ft 102 rfl)
  apply wp_skip
  apply pN
  apply wQ
  apply wp_block
  apply wQ
  obtain ⟨k16, hg, hk16⟩ := jn_some hg
  refine c_post (fun a w => ∃ (t_17 : Bool), k16 t_17 = some r ∧ St (⟨Tryz.f40.ntmps, M, noB, w0⟩ : Ctx) [(1, sl Ap11 (plug_) cp11), (3, vI low_), (4, vI steps_), (5, vP b2 0), (11, vI r3), (12, vI (((i_13 : Nat) : Int))), (62, .bool (t_17))] [(1000, Ob.box b2 [vI (m_.Top), vI (m_.Index), sl Ap03 (m_.Vars) cp03, sl Ap04 (m_.Rels) cp04, sl Ap05 (m_.Cons) cp05] 26)] [(101, slF Rep.str (Ap03) ((m_.Vars).length) (cp03) (m_.Vars)), (102, slF REP (Ap04) ((m_.Rels).length) (cp04) (m_.Rels)), (103, slF RQeq (Ap05) ((m_.Cons).length) (cp05) (m_.Cons)), (104, slF (Rep.num .i64) (Ap11) ((plug_).length) (cp11) (plug_))] a w) ?_ ?_
  ·obtain ⟨x19, hx19, hg⟩ := bind_some hg
   rcases Decidable.em (x19.Label = r3) with hs21 | hs21
   ·have hs21e := decide_eq_true hs21
    replace hg := br_t hg hs21
    obtain ⟨r24, hr24, hg⟩ := bind_some hg
    rcases Bool.eq_false_or_eq_true (r24) with hs27 | hs27
    ·replace hg := br_t hg hs27
     obtain ⟨r30, hr30, hg⟩ := bind_some hg
     obtain ⟨hk33, hg⟩ := chk_some hg
     obtain ⟨r34, hr34, hg⟩ := bind_some hg
     refine d_steps s [] rfl ?_; clear s; intro wr hZ s; have hR := s.wd; have hE := Ext.init hR 0
     refine n_q 0 0 s hR rfl (by kernel_rfl) (by kernel_rfl) (by kernel_rfl) rfl rfl rfl (y_boxField (o' := 3) s rfl underlying26 rfl rfl rfl) fun a s => ?_
     refine n_q 1 1000 s hR rfl (by kernel_rfl) (by kernel_rfl) (by kernel_rfl) rfl rfl rfl (y_loadBox1 (kk := 1000) s rfl rfl rfl underlying23 rfl) fun a s => ?_
     refine n_q 2 0 s hR rfl (by kernel_rfl) (by kernel_rfl) (by kernel_rfl) rfl rfl rfl (y_move s rfl) fun a s => ?_
     obtain ⟨p37, hep37, hpp37⟩ := SlR.elemX (s.ft 102 rfl) hx19
     refine n_q 3 0 s hR rfl (by kernel_rfl) (by kernel_rfl) (by kernel_rfl) rfl rfl rfl (y_elem (sz := 3) (i := i_13) s rfl rfl underlying23 rfl hep37 rfl (lt_of_get hx19)) fun a s => ?_
     refine n_q 4 0 s hR rfl (by kernel_rfl) (by kernel_rfl) (by kernel_rfl) rfl rfl rfl (y_ptrField (o' := 1) s rfl underlying43 rfl rfl rfl) fun a s => ?_
     obtain ⟨hlq38, hmq38, csq38, hdq38, hcq38⟩ := hpp37
     obtain ⟨Aq383, cq383, rfl, lq381, hq383⟩ := REP.open hdq38
     replace s := s.ns 108 hq383
     refine n_q 5 0 s hR rfl (by kernel_rfl) (by kernel_rfl) (by kernel_rfl) rfl rfl rfl (y_ldp1 s rfl hlq38 hmq38 (hcq38 1 _ rfl) underlying3 rfl) fun a s => ?_
     refine n_q 6 0 s hR rfl (by kernel_rfl) (by kernel_rfl) (by kernel_rfl) rfl rfl rfl (y_move s rfl) fun a s => ?_
     refine n_q 7 0 s hR rfl (by kernel_rfl) (by kernel_rfl) (by kernel_rfl) rfl rfl rfl (yl_b (y_eql s rfl rfl) hs21e) fun a s => ?_
     refine n_q 8 0 s hR rfl (by kernel_rfl) (by kernel_rfl) (by kernel_rfl) rfl rfl rfl (y_move s rfl) fun a s => ?_
     refine n_q 9 0 s hR rfl (by kernel_rfl) (by kernel_rfl) (by kernel_rfl) rfl ⟨_, _, _, rfl, rfl, rfl, rfl⟩ rfl (y_boxField (o' := 3) s rfl underlying26 rfl rfl rfl) fun a s => ?_
     refine n_q 10 1000 s hR rfl (by kernel_rfl) (by kernel_rfl) (by kernel_rfl) rfl ⟨_, _, _, rfl, rfl, rfl, rfl⟩ rfl (y_loadBox1 (kk := 1000) s rfl rfl rfl underlying23 rfl) fun a s => ?_
     refine n_q 11 0 s hR rfl (by kernel_rfl) (by kernel_rfl) (by kernel_rfl) rfl ⟨_, _, _, rfl, rfl, rfl, rfl⟩ rfl (y_move s rfl) fun a s => ?_
     obtain ⟨p39, hep39, hpp39⟩ := SlR.elemX (s.ft 102 rfl) hx19
     refine n_q 12 0 s hR rfl (by kernel_rfl) (by kernel_rfl) (by kernel_rfl) rfl ⟨_, _, _, rfl, rfl, rfl, rfl⟩ rfl (y_elem (sz := 3) (i := i_13) s rfl rfl underlying23 rfl hep39 rfl (lt_of_get hx19)) fun a s => ?_
     obtain ⟨hlq40, hmq40, csq40, hdq40, hcq40⟩ := hpp39
     obtain ⟨Aq403, cq403, rfl, lq401, hq403⟩ := REP.open hdq40
     replace s := s.ns 109 hq403
     refine n_q 13 0 s hR rfl (by kernel_rfl) (by kernel_rfl) (by kernel_rfl) rfl ⟨_, _, _, rfl, rfl, rfl, rfl⟩ rfl (y_ldp s rfl hlq40 hmq40 (by simpa using hcq40) underlying43 rfl rfl) fun a s => ?_
     refine n_1 14 s (by kernel_rfl) rfl ⟨_, _, _, rfl, rfl, rfl, rfl⟩ (l_call (cap := []) s rfl func41 rfl (by kernel_rfl) rfl rfl (c_r41_quantifier n _ _ s.lt x19 (Aq403) (cq403) (by omega) (s.ft 109 rfl) r24 hr24) fun v41 a w hK hp s => ?_)
     replace hE := hE.grow hK; replace hZ := Nat.le_trans hZ hK.size; refine ⟨fun g _ h => h.grow hK, ?_⟩; clear hK
     obtain rfl := hp.trans (congrArg Value.bool hs27)
     refine n_1 15 s (by kernel_rfl) rfl rfl (l_quiet s rfl rfl (y_pick_t s rfl rfl) fun a s => ?_); refine ⟨fun g _ h => h, ?_⟩
     refine n_1 16 s (by kernel_rfl) rfl rfl (l_quiet s rfl rfl (y_move s rfl) fun a s => ?_); refine ⟨fun g _ h => h, ?_⟩
     refine n_ql 18 s hE rfl (by kernel_rfl) (by kernel_rfl) (by kernel_rfl) rfl ⟨_, _, _, rfl, rfl, rfl, rfl⟩ rfl (fun w' s => y_move s rfl) fun a s => ?_
     refine n_ql 21 s hE rfl (by kernel_rfl) (by kernel_rfl) (by kernel_rfl) rfl ⟨_, _, _, rfl, rfl, rfl, rfl⟩ rfl (fun w' s => y_move s rfl) fun a s => ?_
     refine n_ql 25 s hE rfl (by kernel_rfl) (by kernel_rfl) (by kernel_rfl) rfl ⟨_, _, _, rfl, rfl, rfl, rfl⟩ rfl (fun w' s => y_move s rfl) fun a s => ?_
     refine n_ql 26 s hE rfl (by kernel_rfl) (by kernel_rfl) (by kernel_rfl) rfl ⟨_, _, _, rfl, rfl, rfl, rfl⟩ rfl (fun w' s => y_move s rfl) fun a s => ?_
     refine n_ql 27 s hE rfl (by kernel_rfl) (by kernel_rfl) (by kernel_rfl) rfl ⟨_, _, _, rfl, rfl, rfl, rfl⟩ rfl (fun w' s => y_sub s rfl rfl (in64.2 hk33)) fun a s => ?_
     refine n_2 17 19 s (by kernel_rfl) rfl ⟨_, _, _, rfl, rfl, rfl, rfl⟩ rfl ⟨_, _, _, rfl, rfl, rfl, rfl⟩ ?_ ?_
     ·refine l_quiet s rfl rfl (y_loadAll (kk := 1000) s rfl rfl underlying26 rfl rfl) fun a s => ?_; refine ⟨fun g _ h => h, ?_⟩
      refine n_1 19 s (by kernel_rfl) rfl ⟨_, _, _, rfl, rfl, rfl, rfl⟩ (l_quiet s rfl rfl (y_boxField (o' := 3) s rfl underlying26 rfl rfl rfl) fun a s => ?_); refine ⟨fun g _ h => h, ?_⟩
      refine n_1 20 s (by kernel_rfl) rfl ⟨_, _, _, rfl, rfl, rfl, rfl⟩ (l_quiet s rfl rfl (y_loadBox1 (kk := 1000) s rfl rfl rfl underlying23 rfl) fun a s => ?_); refine ⟨fun g _ h => h, ?_⟩
      obtain ⟨p43, hep43, hpp43⟩ := SlR.elemX (s.ft 102 rfl) hx19
      refine n_1 22 s (by kernel_rfl) rfl ⟨_, _, _, rfl, rfl, rfl, rfl⟩ (l_quiet s rfl rfl (y_elem (sz := 3) (i := i_13) s rfl rfl underlying23 rfl hep43 rfl (lt_of_get hx19)) fun a s => ?_); refine ⟨fun g _ h => h, ?_⟩
      obtain ⟨hlq44, hmq44, csq44, hdq44, hcq44⟩ := hpp43
      obtain ⟨Aq443, cq443, rfl, lq441, hq443⟩ := REP.open hdq44
      replace s := s.ns 110 hq443
      refine n_1 23 s (by kernel_rfl) rfl ⟨_, _, _, rfl, rfl, rfl, rfl⟩ (l_quiet s rfl rfl (y_ldp s rfl hlq44 hmq44 (by simpa using hcq44) underlying43 rfl rfl) fun a s => ?_); refine ⟨fun g _ h => h, ?_⟩
      refine n_1 24 s (by kernel_rfl) rfl ⟨_, _, _, rfl, rfl, rfl, rfl⟩ (l_call (cap := []) s rfl func57 rfl (by kernel_rfl) rfl rfl (c_r41_role n _ _ s.lt x19 (Aq443) (cq443) (by omega) (s.ft 110 rfl) [66, 79, 68, 89] (by first | omega | (rw [List.length_append]; omega) | (simp only [List.length_append]; omega) | (simp only [List.length_append, List.length_take, List.length_drop, List.length_cons, List.length_nil]; omega)) r30 hr30) fun v45 a w hK hp s => ?_)
      replace hE := hE.grow hK; replace hZ := Nat.le_trans hZ hK.size; refine ⟨fun g _ h => h.grow hK, ?_⟩; clear hK
      obtain rfl := hp
      refine n_1 28 s (by kernel_rfl) rfl ⟨_, _, _, rfl, rfl, rfl, rfl⟩ (l_call (cap := []) s rfl func40 rfl (by kernel_rfl) rfl rfl (c_self _ _ s.lt m_ (Ap03) (cp03) (Ap04) (cp04) (Ap05) (cp05) (s.ft 101 rfl) (s.ft 102 rfl) (s.ft 103 rfl) plug_ (Ap11) (cp11) (s.ft 104 rfl) r30 low_ (steps_ - 1) r34 hr34) fun v47 a w hK hp s => ?_)
      replace hE := hE.grow hK; replace hZ := Nat.le_trans hZ hK.size; refine ⟨fun g _ h => h.grow hK, ?_⟩; clear hK
      obtain rfl := hp
      refine n_1 29 s (by kernel_rfl) rfl rfl (l_quiet s rfl rfl (y_pick_t s rfl rfl) fun a s => ?_); refine ⟨fun g _ h => h, ?_⟩
      refine n_end (by kernel_rfl) ?_; clear hR hZ hE
      apply pN
      exact ⟨(r34), hg, (s.sb rfl rfl rfl)⟩
     ·refine l_quiet s rfl rfl (y_boxField (o' := 3) s rfl underlying26 rfl rfl rfl) fun a s => ?_; refine ⟨fun g _ h => h, ?_⟩
      refine n_2 17 20 s (by kernel_rfl) rfl ⟨_, _, _, rfl, rfl, rfl, rfl⟩ rfl ⟨_, _, _, rfl, rfl, rfl, rfl⟩ ?_ ?_
      ·refine l_quiet s rfl rfl (y_loadAll (kk := 1000) s rfl rfl underlying26 rfl rfl) fun a s => ?_; refine ⟨fun g _ h => h, ?_⟩
       refine n_1 20 s (by kernel_rfl) rfl ⟨_, _, _, rfl, rfl, rfl, rfl⟩ (l_quiet s rfl rfl (y_loadBox1 (kk := 1000) s rfl rfl rfl underlying23 rfl) fun a s => ?_); refine ⟨fun g _ h => h, ?_⟩
       obtain ⟨p49, hep49, hpp49⟩ := SlR.elemX (s.ft 102 rfl) hx19
       refine n_1 22 s (by kernel_rfl) rfl ⟨_, _, _, rfl, rfl, rfl, rfl⟩ (l_quiet s rfl rfl (y_elem (sz := 3) (i := i_13) s rfl rfl underlying23 rfl hep49 rfl (lt_of_get hx19)) fun a s => ?_); refine ⟨fun g _ h => h, ?_⟩
       obtain ⟨hlq50, hmq50, csq50, hdq50, hcq50⟩ := hpp49
       obtain ⟨Aq503, cq503, rfl, lq501, hq503⟩ := REP.open hdq50
       replace s := s.ns 111 hq503
       refine n_1 23 s (by kernel_rfl) rfl ⟨_, _, _, rfl, rfl, rfl, rfl⟩ (l_quiet s rfl rfl (y_ldp s rfl hlq50 hmq50 (by simpa using hcq50) underlying43 rfl rfl) fun a s => ?_); refine ⟨fun g _ h => h, ?_⟩
       refine n_1 24 s (by kernel_rfl) rfl ⟨_, _, _, rfl, rfl, rfl, rfl⟩ (l_call (cap := []) s rfl func57 rfl (by kernel_rfl) rfl rfl (c_r41_role n _ _ s.lt x19 (Aq503) (cq503) (by omega) (s.ft 111 rfl) [66, 79, 68, 89] (by first | omega | (rw [List.length_append]; omega) | (simp only [List.length_append]; omega) | (simp only [List.length_append, List.length_take, List.length_drop, List.length_cons, List.length_nil]; omega)) r30 hr30) fun v51 a w hK hp s => ?_)
       replace hE := hE.grow hK; replace hZ := Nat.le_trans hZ hK.size; refine ⟨fun g _ h => h.grow hK, ?_⟩; clear hK
       obtain rfl := hp
       refine n_1 28 s (by kernel_rfl) rfl ⟨_, _, _, rfl, rfl, rfl, rfl⟩ (l_call (cap := []) s rfl func40 rfl (by kernel_rfl) rfl rfl (c_self _ _ s.lt m_ (Ap03) (cp03) (Ap04) (cp04) (Ap05) (cp05) (s.ft 101 rfl) (s.ft 102 rfl) (s.ft 103 rfl) plug_ (Ap11) (cp11) (s.ft 104 rfl) r30 low_ (steps_ - 1) r34 hr34) fun v53 a w hK hp s => ?_)
       replace hE := hE.grow hK; replace hZ := Nat.le_trans hZ hK.size; refine ⟨fun g _ h => h.grow hK, ?_⟩; clear hK
       obtain rfl := hp
       refine n_1 29 s (by kernel_rfl) rfl rfl (l_quiet s rfl rfl (y_pick_t s rfl rfl) fun a s => ?_); refine ⟨fun g _ h => h, ?_⟩
       refine n_end (by kernel_rfl) ?_; clear hR hZ hE
       apply pN
       exact ⟨(r34), hg, (s.sb rfl rfl rfl)⟩
      ·refine l_quiet s rfl rfl (y_loadBox1 (kk := 1000) s rfl rfl rfl underlying23 rfl) fun a s => ?_; refine ⟨fun g _ h => h, ?_⟩
       obtain ⟨p55, hep55, hpp55⟩ := SlR.elemX (s.ft 102 rfl) hx19
       refine n_ql 22 s hE rfl (by kernel_rfl) (by kernel_rfl) (by kernel_rfl) rfl ⟨_, _, _, rfl, rfl, rfl, rfl⟩ rfl (fun w' s => y_elem (sz := 3) (i := i_13) s rfl rfl underlying23 rfl hep55 rfl (lt_of_get hx19)) fun a s => ?_
       refine n_2 17 23 s (by kernel_rfl) rfl ⟨_, _, _, rfl, rfl, rfl, rfl⟩ rfl ⟨_, _, _, rfl, rfl, rfl, rfl⟩ ?_ ?_
       ·refine l_quiet s rfl rfl (y_loadAll (kk := 1000) s rfl rfl underlying26 rfl rfl) fun a s => ?_; refine ⟨fun g _ h => h, ?_⟩
        obtain ⟨hlq56, hmq56, csq56, hdq56, hcq56⟩ := hpp55
        obtain ⟨Aq563, cq563, rfl, lq561, hq563⟩ := REP.open hdq56
        replace s := s.ns 112 hq563
        refine n_1 23 s (by kernel_rfl) rfl ⟨_, _, _, rfl, rfl, rfl, rfl⟩ (l_quiet s rfl rfl (y_ldp s rfl hlq56 hmq56 (by simpa using hcq56) underlying43 rfl rfl) fun a s => ?_); refine ⟨fun g _ h => h, ?_⟩
        refine n_1 24 s (by kernel_rfl) rfl ⟨_, _, _, rfl, rfl, rfl, rfl⟩ (l_call (cap := []) s rfl func57 rfl (by kernel_rfl) rfl rfl (c_r41_role n _ _ s.lt x19 (Aq563) (cq563) (by omega) (s.ft 112 rfl) [66, 79, 68, 89] (by first | omega | (rw [List.length_append]; omega) | (simp only [List.length_append]; omega) | (simp only [List.length_append, List.length_take, List.length_drop, List.length_cons, List.length_nil]; omega)) r30 hr30) fun v57 a w hK hp s => ?_)
        replace hE := hE.grow hK; replace hZ := Nat.le_trans hZ hK.size; refine ⟨fun g _ h => h.grow hK, ?_⟩; clear hK
        obtain rfl := hp
        refine n_1 28 s (by kernel_rfl) rfl ⟨_, _, _, rfl, rfl, rfl, rfl⟩ (l_call (cap := []) s rfl func40 rfl (by kernel_rfl) rfl rfl (c_self _ _ s.lt m_ (Ap03) (cp03) (Ap04) (cp04) (Ap05) (cp05) (s.ft 101 rfl) (s.ft 102 rfl) (s.ft 103 rfl) plug_ (Ap11) (cp11) (s.ft 104 rfl) r30 low_ (steps_ - 1) r34 hr34) fun v59 a w hK hp s => ?_)
        replace hE := hE.grow hK; replace hZ := Nat.le_trans hZ hK.size; refine ⟨fun g _ h => h.grow hK, ?_⟩; clear hK
        obtain rfl := hp
        refine n_1 29 s (by kernel_rfl) rfl rfl (l_quiet s rfl rfl (y_pick_t s rfl rfl) fun a s => ?_); refine ⟨fun g _ h => h, ?_⟩
        refine n_end (by kernel_rfl) ?_; clear hR hZ hE
        apply pN
        exact ⟨(r34), hg, (s.sb rfl rfl rfl)⟩
       ·obtain ⟨hlq61, hmq61, csq61, hdq61, hcq61⟩ := hpp55
        obtain ⟨Aq613, cq613, rfl, lq611, hq613⟩ := REP.open hdq61
        replace s := s.ns 113 hq613
        refine l_quiet s rfl rfl (y_ldp s rfl hlq61 hmq61 (by simpa using hcq61) underlying43 rfl rfl) fun a s => ?_; refine ⟨fun g _ h => h, ?_⟩
        refine n_2 17 24 s (by kernel_rfl) rfl ⟨_, _, _, rfl, rfl, rfl, rfl⟩ rfl ⟨_, _, _, rfl, rfl, rfl, rfl⟩ ?_ ?_
        ·refine l_quiet s rfl rfl (y_loadAll (kk := 1000) s rfl rfl underlying26 rfl rfl) fun a s => ?_; refine ⟨fun g _ h => h, ?_⟩
         refine n_1 24 s (by kernel_rfl) rfl ⟨_, _, _, rfl, rfl, rfl, rfl⟩ (l_call (cap := []) s rfl func57 rfl (by kernel_rfl) rfl rfl (c_r41_role n _ _ s.lt x19 (Aq613) (cq613) (by omega) (s.ft 113 rfl) [66, 79, 68, 89] (by first | omega | (rw [List.length_append]; omega) | (simp only [List.length_append]; omega) | (simp only [List.length_append, List.length_take, List.length_drop, List.length_cons, List.length_nil]; omega)) r30 hr30) fun v62 a w hK hp s => ?_)
         replace hE := hE.grow hK; replace hZ := Nat.le_trans hZ hK.size; refine ⟨fun g _ h => h.grow hK, ?_⟩; clear hK
         obtain rfl := hp
         refine n_1 28 s (by kernel_rfl) rfl ⟨_, _, _, rfl, rfl, rfl, rfl⟩ (l_call (cap := []) s rfl func40 rfl (by kernel_rfl) rfl rfl (c_self _ _ s.lt m_ (Ap03) (cp03) (Ap04) (cp04) (Ap05) (cp05) (s.ft 101 rfl) (s.ft 102 rfl) (s.ft 103 rfl) plug_ (Ap11) (cp11) (s.ft 104 rfl) r30 low_ (steps_ - 1) r34 hr34) fun v64 a w hK hp s => ?_)
         replace hE := hE.grow hK; replace hZ := Nat.le_trans hZ hK.size; refine ⟨fun g _ h => h.grow hK, ?_⟩; clear hK
         obtain rfl := hp
         refine n_1 29 s (by kernel_rfl) rfl rfl (l_quiet s rfl rfl (y_pick_t s rfl rfl) fun a s => ?_); refine ⟨fun g _ h => h, ?_⟩
         refine n_end (by kernel_rfl) ?_; clear hR hZ hE
         apply pN
         exact ⟨(r34), hg, (s.sb rfl rfl rfl)⟩
        ·refine l_call (cap := []) s rfl func57 rfl (by kernel_rfl) rfl rfl (c_r41_role n _ _ s.lt x19 (Aq613) (cq613) (by omega) (s.ft 113 rfl) [66, 79, 68, 89] (by first | omega | (rw [List.length_append]; omega) | (simp only [List.length_append]; omega) | (simp only [List.length_append, List.length_take, List.length_drop, List.length_cons, List.length_nil]; omega)) r30 hr30) fun v66 a w hK hp s => ?_
         replace hE := hE.grow hK; replace hZ := Nat.le_trans hZ hK.size; refine ⟨fun g _ h => h.grow hK, ?_⟩; clear hK
         obtain rfl := hp
         refine n_1 17 s (by kernel_rfl) rfl ⟨_, _, _, rfl, rfl, rfl, rfl⟩ (l_quiet s rfl rfl (y_loadAll (kk := 1000) s rfl rfl underlying26 rfl rfl) fun a s => ?_); refine ⟨fun g _ h => h, ?_⟩
         refine n_1 28 s (by kernel_rfl) rfl ⟨_, _, _, rfl, rfl, rfl, rfl⟩ (l_call (cap := []) s rfl func40 rfl (by kernel_rfl) rfl rfl (c_self _ _ s.lt m_ (Ap03) (cp03) (Ap04) (cp04) (Ap05) (cp05) (s.ft 101 rfl) (s.ft 102 rfl) (s.ft 103 rfl) plug_ (Ap11) (cp11) (s.ft 104 rfl) r30 low_ (steps_ - 1) r34 hr34) fun v68 a w hK hp s => ?_)
         replace hE := hE.grow hK; replace hZ := Nat.le_trans hZ hK.size; refine ⟨fun g _ h => h.grow hK, ?_⟩; clear hK
         obtain rfl := hp
         refine n_1 29 s (by kernel_rfl) rfl rfl (l_quiet s rfl rfl (y_pick_t s rfl rfl) fun a s => ?_); refine ⟨fun g _ h => h, ?_⟩
         refine n_end (by kernel_rfl) ?_; clear hR hZ hE
         apply pN
         exact ⟨(r34), hg, (s.sb rfl rfl rfl)⟩
    replace hg := br_n hg hs27
    refine d_steps s [] rfl ?_; clear s; intro wr hZ s; have hR := s.wd; have hE := Ext.init hR 0
    refine n_q 0 0 s hR rfl (by kernel_rfl) (by kernel_rfl) (by kernel_rfl) rfl rfl rfl (y_boxField (o' := 3) s rfl underlying26 rfl rfl rfl) fun a s => ?_
    refine n_q 1 1000 s hR rfl (by kernel_rfl) (by kernel_rfl) (by kernel_rfl) rfl rfl rfl (y_loadBox1 (kk := 1000) s rfl rfl rfl underlying23 rfl) fun a s => ?_
    refine n_q 2 0 s hR rfl (by kernel_rfl) (by kernel_rfl) (by kernel_rfl) rfl rfl rfl (y_move s rfl) fun a s => ?_
    obtain ⟨p70, hep70, hpp70⟩ := SlR.elemX (s.ft 102 rfl) hx19
    refine n_q 3 0 s hR rfl (by kernel_rfl) (by kernel_rfl) (by kernel_rfl) rfl rfl rfl (y_elem (sz := 3) (i := i_13) s rfl rfl underlying23 rfl hep70 rfl (lt_of_get hx19)) fun a s => ?_
    refine n_q 4 0 s hR rfl (by kernel_rfl) (by kernel_rfl) (by kernel_rfl) rfl rfl rfl (y_ptrField (o' := 1) s rfl underlying43 rfl rfl rfl) fun a s => ?_
    obtain ⟨hlq71, hmq71, csq71, hdq71, hcq71⟩ := hpp70
    obtain ⟨Aq713, cq713, rfl, lq711, hq713⟩ := REP.open hdq71
    replace s := s.ns 114 hq713
    refine n_q 5 0 s hR rfl (by kernel_rfl) (by kernel_rfl) (by kernel_rfl) rfl rfl rfl (y_ldp1 s rfl hlq71 hmq71 (hcq71 1 _ rfl) underlying3 rfl) fun a s => ?_
    refine n_q 6 0 s hR rfl (by kernel_rfl) (by kernel_rfl) (by kernel_rfl) rfl rfl rfl (y_move s rfl) fun a s => ?_
    refine n_q 7 0 s hR rfl (by kernel_rfl) (by kernel_rfl) (by kernel_rfl) rfl rfl rfl (yl_b (y_eql s rfl rfl) hs21e) fun a s => ?_
    refine n_q 8 0 s hR rfl (by kernel_rfl) (by kernel_rfl) (by kernel_rfl) rfl rfl rfl (y_move s rfl) fun a s => ?_
    refine n_q 9 0 s hR rfl (by kernel_rfl) (by kernel_rfl) (by kernel_rfl) rfl ⟨_, _, _, rfl, rfl, rfl, rfl⟩ rfl (y_boxField (o' := 3) s rfl underlying26 rfl rfl rfl) fun a s => ?_
    refine n_q 10 1000 s hR rfl (by kernel_rfl) (by kernel_rfl) (by kernel_rfl) rfl ⟨_, _, _, rfl, rfl, rfl, rfl⟩ rfl (y_loadBox1 (kk := 1000) s rfl rfl rfl underlying23 rfl) fun a s => ?_
    refine n_q 11 0 s hR rfl (by kernel_rfl) (by kernel_rfl) (by kernel_rfl) rfl ⟨_, _, _, rfl, rfl, rfl, rfl⟩ rfl (y_move s rfl) fun a s => ?_
    obtain ⟨p72, hep72, hpp72⟩ := SlR.elemX (s.ft 102 rfl) hx19
    refine n_q 12 0 s hR rfl (by kernel_rfl) (by kernel_rfl) (by kernel_rfl) rfl ⟨_, _, _, rfl, rfl, rfl, rfl⟩ rfl (y_elem (sz := 3) (i := i_13) s rfl rfl underlying23 rfl hep72 rfl (lt_of_get hx19)) fun a s => ?_
    obtain ⟨hlq73, hmq73, csq73, hdq73, hcq73⟩ := hpp72
    obtain ⟨Aq733, cq733, rfl, lq731, hq733⟩ := REP.open hdq73
    replace s := s.ns 115 hq733
    refine n_q 13 0 s hR rfl (by kernel_rfl) (by kernel_rfl) (by kernel_rfl) rfl ⟨_, _, _, rfl, rfl, rfl, rfl⟩ rfl (y_ldp s rfl hlq73 hmq73 (by simpa using hcq73) underlying43 rfl rfl) fun a s => ?_
    refine n_1 14 s (by kernel_rfl) rfl ⟨_, _, _, rfl, rfl, rfl, rfl⟩ (l_call (cap := []) s rfl func41 rfl (by kernel_rfl) rfl rfl (c_r41_quantifier n _ _ s.lt x19 (Aq733) (cq733) (by omega) (s.ft 115 rfl) r24 hr24) fun v74 a w hK hp s => ?_)
    replace hE := hE.grow hK; replace hZ := Nat.le_trans hZ hK.size; refine ⟨fun g _ h => h.grow hK, ?_⟩; clear hK
    obtain rfl := hp.trans (congrArg Value.bool hs27)
    refine n_1 15 s (by kernel_rfl) rfl rfl (l_quiet s rfl rfl (y_pick_t s rfl rfl) fun a s => ?_); refine ⟨fun g _ h => h, ?_⟩
    refine n_1 16 s (by kernel_rfl) rfl rfl (l_quiet s rfl rfl (y_move s rfl) fun a s => ?_); refine ⟨fun g _ h => h, ?_⟩
    refine n_qlpass 17 s hE rfl (by kernel_rfl) (by kernel_rfl) (by kernel_rfl) rfl ⟨_, _, _, rfl, rfl, rfl, rfl⟩ rfl fun a s => ?_
    refine n_qlpass 18 s hE rfl (by kernel_rfl) (by kernel_rfl) (by kernel_rfl) rfl ⟨_, _, _, rfl, rfl, rfl, rfl⟩ rfl fun a s => ?_
    refine n_qlpass 19 s hE rfl (by kernel_rfl) (by kernel_rfl) (by kernel_rfl) rfl ⟨_, _, _, rfl, rfl, rfl, rfl⟩ rfl fun a s => ?_
    refine n_qlpass 20 s hE rfl (by kernel_rfl) (by kernel_rfl) (by kernel_rfl) rfl ⟨_, _, _, rfl, rfl, rfl, rfl⟩ rfl fun a s => ?_
    refine n_qlpass 21 s hE rfl (by kernel_rfl) (by kernel_rfl) (by kernel_rfl) rfl ⟨_, _, _, rfl, rfl, rfl, rfl⟩ rfl fun a s => ?_
    refine n_qlpass 22 s hE rfl (by kernel_rfl) (by kernel_rfl) (by kernel_rfl) rfl ⟨_, _, _, rfl, rfl, rfl, rfl⟩ rfl fun a s => ?_
    refine n_qlpass 23 s hE rfl (by kernel_rfl) (by kernel_rfl) (by kernel_rfl) rfl ⟨_, _, _, rfl, rfl, rfl, rfl⟩ rfl fun a s => ?_
    refine n_qlpass 24 s hE rfl (by kernel_rfl) (by kernel_rfl) (by kernel_rfl) rfl ⟨_, _, _, rfl, rfl, rfl, rfl⟩ rfl fun a s => ?_
    refine n_qlpass 25 s hE rfl (by kernel_rfl) (by kernel_rfl) (by kernel_rfl) rfl ⟨_, _, _, rfl, rfl, rfl, rfl⟩ rfl fun a s => ?_
    refine n_pass 26 s (by kernel_rfl) rfl ⟨_, _, _, rfl, rfl, rfl, rfl⟩ rfl rfl fun a s => ?_
    refine n_pass 27 s (by kernel_rfl) rfl ⟨_, _, _, rfl, rfl, rfl, rfl⟩ rfl rfl fun a s => ?_
    refine n_pass 28 s (by kernel_rfl) rfl ⟨_, _, _, rfl, rfl, rfl, rfl⟩ rfl rfl fun a s => ?_
    refine n_1 29 s (by kernel_rfl) rfl rfl (l_quiet s rfl rfl (y_pick_f s rfl rfl) fun a s => ?_); refine ⟨fun g _ h => h, ?_⟩
    refine n_end (by kernel_rfl) ?_; clear hR hZ hE
    apply pN
    exact ⟨(false), hg, (s.sb rfl rfl rfl)⟩
   have hs21e := decide_eq_false hs21
   replace hg := br_f hg hs21
   refine d_plan s [] [(0, some 0), (1, some 1000), (2, some 0), (3, some 0), (4, some 0), (5, some 0), (6, some 0), (7, some 0), (8, some 0), (9, some 0), (10, some 0), (11, some 0), (12, some 0), (13, some 0), (14, some 0), (15, some 0), (16, some 0), (17, some 0), (18, some 0), (19, some 0), (20, some 0), (21, some 0), (22, some 0), (23, some 0), (24, some 0), (25, some 0), (26, some 0), (27, some 0), (28, some 0), (29, some 0)] rfl (by kernel_rfl) (by kernel_rfl) rfl ?_; clear s; intro wr hZ s; have hR := s.wd
   refine qt s hR rfl (y_boxField (o' := 3) s rfl underlying26 rfl rfl rfl) fun a s => ?_
   refine qt s hR rfl (y_loadBox1 (kk := 1000) s rfl rfl rfl underlying23 rfl) fun a s => ?_
   refine qt s hR rfl (y_move s rfl) fun a s => ?_
   obtain ⟨p76, hep76, hpp76⟩ := SlR.elemX (s.ft 102 rfl) hx19
   refine qt s hR rfl (y_elem (sz := 3) (i := i_13) s rfl rfl underlying23 rfl hep76 rfl (lt_of_get hx19)) fun a s => ?_
   refine qt s hR rfl (y_ptrField (o' := 1) s rfl underlying43 rfl rfl rfl) fun a s => ?_
   obtain ⟨hlq77, hmq77, csq77, hdq77, hcq77⟩ := hpp76
   obtain ⟨Aq773, cq773, rfl, lq771, hq773⟩ := REP.open hdq77
   replace s := s.ns 116 hq773
   refine qt s hR rfl (y_ldp1 s rfl hlq77 hmq77 (hcq77 1 _ rfl) underlying3 rfl) fun a s => ?_
   refine qt s hR rfl (y_move s rfl) fun a s => ?_
   refine qt s hR rfl (yl_b (y_eql s rfl rfl) hs21e) fun a s => ?_
   refine qt s hR rfl (y_move s rfl) fun a s => ?_
   refine q_pass s hR rfl rfl ⟨_, _, _, rfl, rfl, rfl, rfl⟩ rfl fun a s => ?_
   refine q_pass s hR rfl rfl ⟨_, _, _, rfl, rfl, rfl, rfl⟩ rfl fun a s => ?_
   refine q_pass s hR rfl rfl ⟨_, _, _, rfl, rfl, rfl, rfl⟩ rfl fun a s => ?_
   refine q_pass s hR rfl rfl ⟨_, _, _, rfl, rfl, rfl, rfl⟩ rfl fun a s => ?_
   refine q_pass s hR rfl rfl ⟨_, _, _, rfl, rfl, rfl, rfl⟩ rfl fun a s => ?_
   refine q_pass s hR rfl rfl ⟨_, _, _, rfl, rfl, rfl, rfl⟩ rfl fun a s => ?_
   refine qt s hR rfl (y_pick_f s rfl rfl) fun a s => ?_
   refine qt s hR rfl (y_move s rfl) fun a s => ?_
   refine q_pass s hR rfl rfl ⟨_, _, _, rfl, rfl, rfl, rfl⟩ rfl fun a s => ?_
   refine q_pass s hR rfl rfl ⟨_, _, _, rfl, rfl, rfl, rfl⟩ rfl fun a s => ?_
   refine q_pass s hR rfl rfl ⟨_, _, _, rfl, rfl, rfl, rfl⟩ rfl fun a s => ?_
   refine q_pass s hR rfl rfl ⟨_, _, _, rfl, rfl, rfl, rfl⟩ rfl fun a s => ?_
   refine q_pass s hR rfl rfl ⟨_, _, _, rfl, rfl, rfl, rfl⟩ rfl fun a s => ?_
   refine q_pass s hR rfl rfl ⟨_, _, _, rfl, rfl, rfl, rfl⟩ rfl fun a s => ?_
   refine q_pass s hR rfl rfl ⟨_, _, _, rfl, rfl, rfl, rfl⟩ rfl fun a s => ?_
   refine q_pass s hR rfl rfl ⟨_, _, _, rfl, rfl, rfl, rfl⟩ rfl fun a s => ?_
   refine q_pass s hR rfl rfl ⟨_, _, _, rfl, rfl, rfl, rfl⟩ rfl fun a s => ?_
   refine q_pass s hR rfl rfl ⟨_, _, _, rfl, rfl, rfl, rfl⟩ rfl fun a s => ?_
   refine q_pass s hR rfl rfl ⟨_, _, _, rfl, rfl, rfl, rfl⟩ rfl fun a s => ?_
   refine q_pass s hR rfl rfl ⟨_, _, _, rfl, rfl, rfl, rfl⟩ rfl fun a s => ?_
   refine qt s hR rfl (y_pick_f s rfl rfl) fun a s => ?_
   clear hR hZ
   apply pN
   exact ⟨(false), hg, (s.sb rfl rfl rfl)⟩
  clear s a; rintro a w ⟨t_17, hg, s⟩
  subst hk16
  refine c_cond s rfl (fun hc78 => ?_) (fun hc78 => ?_)
  ·replace hg := br_t hg hc78
   apply wR
   refine asg s rfl rfl fun a s => ?_
   apply wN
   apply wp_ret
   refine p_inR ?_
   refine p_thenR ?_
   refine p_thenR ?_
   refine p_inR ?_
   refine p_thenR ?_
   obtain rfl := Option.some.inj hg
   refine fin1 (fn := Tryz.f40) s rfl (r_tmp s rfl) ?_
   exact rfl
  replace hg := br_n hg hc78
  apply wp_skip
  refine p_inN ?_
  apply pN
  apply wL
  refine mv s rfl rfl fun a s => ?_
  refine qq s rfl (y_addN (i := i_13) (j := 1) s rfl rfl (in64.2 (by omega))) fun a s => ?_
  refine asg s rfl rfl fun a s => ?_
  apply wN
  exact ⟨m1, Nat.lt_succ_self _, ⟨(i_13 + 1), hg, (s.sb rfl rfl rfl)⟩⟩
 replace hg := br_f hg hc14
 apply wp_exit
 refine p_then ?_
 refine p_then ?_
 refine p_in ?_
 apply pN
 apply wR
 refine asg s rfl rfl fun a s => ?_
 apply wN
 apply wp_ret
 obtain rfl := Option.some.inj hg
 refine fin1 (fn := Tryz.f40) s rfl (r_tmp s rfl) ?_
 exact rfl
set_option maxHeartbeats 400000 in
theorem c_r41_under (n : Nat) (M : Bs) (w0 : World) (hM : ∀ b, M b → b < w0.heap.size) (m_ : MRS) (Ap03 : Option Addr) (cp03 : Nat) (Ap04 : Option Addr) (cp04 : Nat) (Ap05 : Option Addr) (cp05 : Nat) (hp03 : SlR Rep.str M w0 Ap03 (m_.Vars).length cp03 (m_.Vars)) (hp04 : SlR REP M w0 Ap04 (m_.Rels).length cp04 (m_.Rels)) (hp05 : SlR RQeq M w0 Ap05 (m_.Cons).length cp05 (m_.Cons)) (plug_ : (List Int)) (Ap11 : Option Addr) (cp11 : Nat) (hp11 : SlR (Rep.num .i64) M w0 Ap11 (plug_).length cp11 (plug_)) (q_ : EP) (Ap23 : Option Addr) (cp23 : Nat) (lp21 : (q_.Pred).length ≤ 9223372036854775807) (hp23 : SlR RArg M w0 Ap23 (q_.Args).length cp23 (q_.Args)) (label_ : Int) (r : Bool) (hg : r41_under n m_ plug_ q_ label_ = some r) :
    Calls Tryz.prog 58 [.agg #[.int .i64 (m_.Top), .int .i64 (m_.Index), .slice (Ap03) ((m_.Vars).length) (cp03), .slice (Ap04) ((m_.Rels).length) (cp04), .slice (Ap05) ((m_.Cons).length) (cp05)], .slice (Ap11) ((plug_).length) (cp11), .agg #[.string (bs (q_.Pred)), .int .i64 (q_.Label), .slice (Ap23) ((q_.Args).length) (cp23)], .int .i64 (label_)].toArray w0 (Ret noB w0 fun v w => v = .bool (r)) := by
 unfold r41_under at hg
 refine enter M noB func58 rfl rfl hM ?_
 intro a s
 replace s := s.es 101 hp03
 replace s := s.es 102 hp04
 replace s := s.es 103 hp05
 replace s := s.es 104 hp11
 replace s := s.es 105 hp23
 apply wR
 refine l_seq rfl (l_box (zs := [vI (m_.Top), vI (m_.Index), sl Ap03 (m_.Vars) cp03, sl Ap04 (m_.Rels) cp04, sl Ap05 (m_.Cons) cp05]) s 1000 rfl rfl rfl rfl fun b3 a w hb hK s => ?_)
 refine l_seq rfl (l_box (zs := [vT (q_.Pred), vI (q_.Label), sl Ap23 (q_.Args) cp23]) s 1001 rfl rfl rfl rfl fun b4 a w hb hK s => ?_)
 refine asg s rfl rfl fun a s => ?_
 apply wN
 apply wQ
 apply wR
 refine asg s rfl rfl fun a s => ?_
 apply wN
 apply wp_block
 refine c_loop (σ := Nat) (fun m1 a w => ∃ (i_5 : Nat), r41_under_L0 n m_ plug_ q_ label_ m1 i_5 = some r ∧ St (⟨Tryz.f58.ntmps, M, noB, w0⟩ : Ctx) [(1, sl Ap11 (plug_) cp11), (3, vI label_), (4, vP b3 0), (6, vP b4 0), (9, vI (((i_5 : Nat) : Int)))] [(1000, Ob.box b3 [vI (m_.Top), vI (m_.Index), sl Ap03 (m_.Vars) cp03, sl Ap04 (m_.Rels) cp04, sl Ap05 (m_.Cons) cp05] 26), (1001, Ob.box b4 [vT (q_.Pred), vI (q_.Label), sl Ap23 (q_.Args) cp23] 43)] [(101, slF Rep.str (Ap03) ((m_.Vars).length) (cp03) (m_.Vars)), (102, slF REP (Ap04) ((m_.Rels).length) (cp04) (m_.Rels)), (103, slF RQeq (Ap05) ((m_.Cons).length) (cp05) (m_.Cons)), (104, slF (Rep.num .i64) (Ap11) ((plug_).length) (cp11) (plug_)), (105, slF RArg (Ap23) ((q_.Args).length) (cp23) (q_.Args))] a w) (fun m1 => m1) n ⟨(0), hg, (s.sb rfl rfl rfl)⟩ ?_
 clear s a; rintro m1 a w ⟨i_5, hg, s⟩
 rcases m1 with _ | m1
 ·rw [r41_under_L0] at hg; cases hg
 rw [r41_under_L0] at hg
 apply wQ
 apply wR
 refine mv s rfl rfl fun a s => ?_
 refine qq s rfl (y_boxField (o' := 2) s rfl underlying43 rfl rfl rfl) fun a s => ?_
 refine qq s rfl (y_loadBox1 (kk := 1001) s rfl rfl rfl underlying41 rfl) fun a s => ?_
 refine qq s rfl (y_lenSlice s rfl underlying41) fun a s => ?_
 refine qq s rfl (y_lssN (i := i_5) (j := ((q_.Args).length)) s rfl rfl) fun a s => ?_
 apply wN
 refine c_dec s rfl (fun hc6 => ?_) (fun hc6 => ?_)
 ·replace hg := br_t hg hc6
  have hmx7 := SlR.mx (s.ft 105 rfl)
  apply wp_skip
  apply pN
  apply wQ
  apply wp_block
  apply wQ
  obtain ⟨x9, hx9, hg⟩ := bind_some hg
  obtain ⟨r11, hr11, hg⟩ := bind_some hg
  refine d_plan s [] [(0, some 1000), (1, some 0), (2, some 0), (3, some 1001), (4, some 0), (5, some 0), (6, some 0), (7, some 0), (8, none), (9, none)] rfl (by kernel_rfl) (by kernel_rfl) rfl ?_; clear s; intro wr hZ s; have hR := s.wd
  refine qt s hR rfl (y_loadAll (kk := 1000) s rfl rfl underlying26 rfl rfl) fun a s => ?_
  refine qt s hR rfl (y_move s rfl) fun a s => ?_
  refine qt s hR rfl (y_boxField (o' := 2) s rfl underlying43 rfl rfl rfl) fun a s => ?_
  refine qt s hR rfl (y_loadBox1 (kk := 1001) s rfl rfl rfl underlying41 rfl) fun a s => ?_
  refine qt s hR rfl (y_move s rfl) fun a s => ?_
  obtain ⟨p14, hep14, hpp14⟩ := SlR.elemX (s.ft 105 rfl) hx9
  refine qt s hR rfl (y_elem (sz := 2) (i := i_5) s rfl rfl underlying41 rfl hep14 rfl (lt_of_get hx9)) fun a s => ?_
  refine qt s hR rfl (y_ptrField (o' := 1) s rfl underlying45 rfl rfl rfl) fun a s => ?_
  obtain ⟨hlq15, hmq15, csq15, hdq15, hcq15⟩ := hpp14
  obtain ⟨rfl, lq151⟩ := RArg.open hdq15
  refine qt s hR rfl (y_ldp1 s rfl hlq15 hmq15 (hcq15 1 _ rfl) underlying3 rfl) fun a s => ?_
  refine l_take s rfl rfl (l_call (cap := []) s rfl func45 rfl (by kernel_rfl) rfl rfl (c_r41_at n _ _ s.lt m_ (Ap03) (cp03) (Ap04) (cp04) (Ap05) (cp05) (s.ft 101 rfl) (s.ft 102 rfl) (s.ft 103 rfl) plug_ (Ap11) (cp11) (s.ft 104 rfl) x9.Var r11 hr11) fun v16 a w hK hp s => ?_)
  replace hZ := Nat.le_trans hZ hK.size; refine ⟨fun g _ h => h.grow hK, ?_⟩; clear hK
  obtain rfl := hp
  refine l_take s rfl rfl (l_quiet s rfl rfl (y_assign s rfl) fun a s => ?_); refine ⟨fun g _ h => h, ?_⟩
  clear hR hZ
  apply pN
  apply wQ
  obtain ⟨k18, hg, hk18⟩ := jn_some hg
  refine c_post (fun a w => ∃ (t_19 : Bool), k18 t_19 = some r ∧ St (⟨Tryz.f58.ntmps, M, noB, w0⟩ : Ctx) [(1, sl Ap11 (plug_) cp11), (3, vI label_), (4, vP b3 0), (6, vP b4 0), (9, vI (((i_5 : Nat) : Int))), (36, .bool (t_19))] [(1000, Ob.box b3 [vI (m_.Top), vI (m_.Index), sl Ap03 (m_.Vars) cp03, sl Ap04 (m_.Rels) cp04, sl Ap05 (m_.Cons) cp05] 26), (1001, Ob.box b4 [vT (q_.Pred), vI (q_.Label), sl Ap23 (q_.Args) cp23] 43)] [(101, slF Rep.str (Ap03) ((m_.Vars).length) (cp03) (m_.Vars)), (102, slF REP (Ap04) ((m_.Rels).length) (cp04) (m_.Rels)), (103, slF RQeq (Ap05) ((m_.Cons).length) (cp05) (m_.Cons)), (104, slF (Rep.num .i64) (Ap11) ((plug_).length) (cp11) (plug_)), (105, slF RArg (Ap23) ((q_.Args).length) (cp23) (q_.Args))] a w) ?_ ?_
  ·rcases Decidable.em ((0 : Int) ≤ r11) with hs20 | hs20
   ·have hs20e := decide_eq_true hs20
    replace hg := br_t hg hs20
    obtain ⟨r21, hr21, hg⟩ := bind_some hg
    obtain ⟨r24, hr24, hg⟩ := bind_some hg
    apply wL
    refine mv s rfl rfl fun a s => ?_
    refine qq s rfl (yl_b (y_geq s rfl rfl) hs20e) fun a s => ?_
    refine mv s rfl rfl fun a s => ?_
    refine gy s rfl (y_loadAll (kk := 1000) s rfl rfl underlying26 rfl rfl) fun a s => ?_
    refine gm s rfl rfl fun a s => ?_
    refine gm s rfl rfl fun a s => ?_
    refine gl s rfl (l_call (cap := []) s rfl func18 rfl (by kernel_rfl) rfl rfl (c_r41_Below n _ _ s.lt m_ (Ap03) (cp03) (Ap04) (cp04) (Ap05) (cp05) (s.ft 101 rfl) (s.ft 102 rfl) (s.ft 103 rfl) plug_ (Ap11) (cp11) (s.ft 104 rfl) r11 r21 hr21) fun v27 a w hK hp s => ?_)
    obtain ⟨Au28a1, cu28a1, rfl, hu28a1⟩ := hp
    replace s := s.ns 107 hu28a1
    refine gm s rfl rfl fun a s => ?_
    refine gl s rfl (l_call (cap := []) s rfl func23 rfl (by kernel_rfl) rfl rfl (c_r41_Has n _ _ s.lt r21 (Au28a1) (cu28a1) (s.ft 107 rfl) label_ r24 hr24) fun v29 a w hK hp s => ?_)
    obtain rfl := hp
    refine qq s rfl (y_pick_t s rfl rfl) fun a s => ?_
    apply wN
    exact ⟨(r24), hg, (s.sb rfl rfl rfl)⟩
   have hs20e := decide_eq_false hs20
   replace hg := br_f hg hs20
   apply wL
   refine mv s rfl rfl fun a s => ?_
   refine qq s rfl (yl_b (y_geq s rfl rfl) hs20e) fun a s => ?_
   refine mv s rfl rfl fun a s => ?_
   refine gn s rfl fun a s => ?_
   refine gn s rfl fun a s => ?_
   refine gn s rfl fun a s => ?_
   refine gn s rfl fun a s => ?_
   refine gn s rfl fun a s => ?_
   refine gn s rfl fun a s => ?_
   refine qq s rfl (y_pick_f s rfl rfl) fun a s => ?_
   apply wN
   exact ⟨(false), hg, (s.sb rfl rfl rfl)⟩
  clear s a; rintro a w ⟨t_19, hg, s⟩
  subst hk18
  refine c_cond s rfl (fun hc31 => ?_) (fun hc31 => ?_)
  ·replace hg := br_t hg hc31
   apply wR
   refine asg s rfl rfl fun a s => ?_
   apply wN
   apply wp_ret
   refine p_inR ?_
   refine p_thenR ?_
   refine p_thenR ?_
   refine p_inR ?_
   refine p_thenR ?_
   obtain rfl := Option.some.inj hg
   refine fin1 (fn := Tryz.f58) s rfl (r_tmp s rfl) ?_
   exact rfl
  replace hg := br_n hg hc31
  apply wp_skip
  refine p_inN ?_
  apply pN
  apply wL
  refine mv s rfl rfl fun a s => ?_
  refine qq s rfl (y_addN (i := i_5) (j := 1) s rfl rfl (in64.2 (by omega))) fun a s => ?_
  refine asg s rfl rfl fun a s => ?_
  apply wN
  exact ⟨m1, Nat.lt_succ_self _, ⟨(i_5 + 1), hg, (s.sb rfl rfl rfl)⟩⟩
 replace hg := br_f hg hc6
 apply wp_exit
 refine p_then ?_
 refine p_then ?_
 refine p_in ?_
 apply pN
 apply wR
 refine asg s rfl rfl fun a s => ?_
 apply wN
 apply wp_ret
 obtain rfl := Option.some.inj hg
 refine fin1 (fn := Tryz.f58) s rfl (r_tmp s rfl) ?_
 exact rfl
set_option maxHeartbeats 400000 in
theorem c_r41_binds (n : Nat) (M : Bs) (w0 : World) (hM : ∀ b, M b → b < w0.heap.size) (t_ : MRS) (Ap03 : Option Addr) (cp03 : Nat) (Ap04 : Option Addr) (cp04 : Nat) (Ap05 : Option Addr) (cp05 : Nat) (hp03 : SlR Rep.str M w0 Ap03 (t_.Vars).length cp03 (t_.Vars)) (hp04 : SlR REP M w0 Ap04 (t_.Rels).length cp04 (t_.Rels)) (hp05 : SlR RQeq M w0 Ap05 (t_.Cons).length cp05 (t_.Cons)) (t_' : (List Int)) (Ap11 : Option Addr) (cp11 : Nat) (hp11 : SlR (Rep.num .i64) M w0 Ap11 (t_').length cp11 (t_')) (t_'' : Int) (r : Bool) (hg : r41_binds n t_ t_' t_'' = some r) :
    Calls Tryz.prog 42 [.agg #[.int .i64 (t_.Top), .int .i64 (t_.Index), .slice (Ap03) ((t_.Vars).length) (cp03), .slice (Ap04) ((t_.Rels).length) (cp04), .slice (Ap05) ((t_.Cons).length) (cp05)], .slice (Ap11) ((t_').length) (cp11), .int .i64 (t_'')].toArray w0 (Ret noB w0 fun v w => v = .bool (r)) := by
 unfold r41_binds at hg
 refine enter M noB func42 rfl rfl hM ?_
 intro a s
 replace s := s.es 101 hp03
 replace s := s.es 102 hp04
 replace s := s.es 103 hp05
 replace s := s.es 104 hp11
 apply wR
 refine l_seq rfl (l_box (zs := [vI (t_.Top), vI (t_.Index), sl Ap03 (t_.Vars) cp03, sl Ap04 (t_.Rels) cp04, sl Ap05 (t_.Cons) cp05]) s 1000 rfl rfl rfl rfl fun b2 a w hb hK s => ?_)
 refine asg s rfl rfl fun a s => ?_
 apply wN
 apply wQ
 obtain ⟨x4, hx4, hg⟩ := bind_some hg
 obtain ⟨r6, hr6, hg⟩ := bind_some hg
 apply wL
 refine qq s rfl (y_boxField (o' := 3) s rfl underlying26 rfl rfl rfl) fun a s => ?_
 refine qq s rfl (y_loadBox1 (kk := 1000) s rfl rfl rfl underlying23 rfl) fun a s => ?_
 refine mv s rfl rfl fun a s => ?_
 obtain ⟨p9, hep9, hpp9⟩ := SlR.elemX (s.ft 102 rfl) (ix_some hx4).1
 refine qq s rfl (y_elem (sz := 3) (i := ((t_'').toNat)) s rfl rfl underlying23 rfl hep9 (ix_some hx4).2.1 (lt_of_get (ix_some hx4).1)) fun a s => ?_
 obtain ⟨hlq10, hmq10, csq10, hdq10, hcq10⟩ := hpp9
 obtain ⟨Aq103, cq103, rfl, lq101, hq103⟩ := REP.open hdq10
 replace s := s.ns 106 hq103
 refine qq s rfl (y_ldp s rfl hlq10 hmq10 (by simpa using hcq10) underlying43 rfl rfl) fun a s => ?_
 refine l_seq rfl (l_call (cap := []) s rfl func57 rfl (by kernel_rfl) rfl rfl (c_r41_role n _ _ s.lt x4 (Aq103) (cq103) (by omega) (s.ft 106 rfl) [65, 82, 71, 48] (by first | omega | (rw [List.length_append]; omega) | (simp only [List.length_append]; omega) | (simp only [List.length_append, List.length_take, List.length_drop, List.length_cons, List.length_nil]; omega)) r6 hr6) fun v11 a w hK hp s => ?_)
 obtain rfl := hp
 refine asg s rfl rfl fun a s => ?_
 apply wN
 apply wQ
 apply wR
 refine asg s rfl rfl fun a s => ?_
 apply wN
 apply wp_block
 refine c_loop (σ := Nat) (fun m1 a w => ∃ (t_13 : Nat), r41_binds_L0 n t_ t_' t_'' x4 r6 m1 t_13 = some r ∧ St (⟨Tryz.f42.ntmps, M, noB, w0⟩ : Ctx) [(1, sl Ap11 (t_') cp11), (2, vI (t_'')), (3, vP b2 0), (7, vI r6), (8, vI (((t_13 : Nat) : Int)))] [(1000, Ob.box b2 [vI (t_.Top), vI (t_.Index), sl Ap03 (t_.Vars) cp03, sl Ap04 (t_.Rels) cp04, sl Ap05 (t_.Cons) cp05] 26)] [(101, slF Rep.str (Ap03) ((t_.Vars).length) (cp03) (t_.Vars)), (102, slF REP (Ap04) ((t_.Rels).length) (cp04) (t_.Rels)), (103, slF RQeq (Ap05) ((t_.Cons).length) (cp05) (t_.Cons)), (104, slF (Rep.num .i64) (Ap11) ((t_').length) (cp11) (t_'))] a w) (fun m1 => m1) n ⟨(0), hg, (s.sb rfl rfl rfl)⟩ ?_
 clear s a; rintro m1 a w ⟨t_13, hg, s⟩
 rcases m1 with _ | m1
 ·rw [r41_binds_L0] at hg; cases hg
 rw [r41_binds_L0] at hg
 apply wQ
 apply wQ
 obtain ⟨k14, hg, hk14⟩ := jn_some hg
 refine c_post (fun a w => ∃ (t_15 : Bool), k14 t_15 = some r ∧ St (⟨Tryz.f42.ntmps, M, noB, w0⟩ : Ctx) [(1, sl Ap11 (t_') cp11), (2, vI (t_'')), (3, vP b2 0), (7, vI r6), (8, vI (((t_13 : Nat) : Int))), (25, .bool (t_15))] [(1000, Ob.box b2 [vI (t_.Top), vI (t_.Index), sl Ap03 (t_.Vars) cp03, sl Ap04 (t_.Rels) cp04, sl Ap05 (t_.Cons) cp05] 26)] [(101, slF Rep.str (Ap03) ((t_.Vars).length) (cp03) (t_.Vars)), (102, slF REP (Ap04) ((t_.Rels).length) (cp04) (t_.Rels)), (103, slF RQeq (Ap05) ((t_.Cons).length) (cp05) (t_.Cons)), (104, slF (Rep.num .i64) (Ap11) ((t_').length) (cp11) (t_'))] a w) ?_ ?_
 ·rcases Decidable.em (t_13 < ((t_.Rels).length)) with hs16 | hs16
  ·have hs16e := decide_eq_true hs16
   replace hg := br_t hg hs16
   have hmx17 := SlR.mx (s.ft 102 rfl)
   apply wL
   refine mv s rfl rfl fun a s => ?_
   refine qq s rfl (y_boxField (o' := 3) s rfl underlying26 rfl rfl rfl) fun a s => ?_
   refine qq s rfl (y_loadBox1 (kk := 1000) s rfl rfl rfl underlying23 rfl) fun a s => ?_
   refine qq s rfl (y_lenSlice s rfl underlying23) fun a s => ?_
   refine qq s rfl (yl_b (y_lssN (i := t_13) (j := ((t_.Rels).length)) s rfl rfl) hs16e) fun a s => ?_
   refine mv s rfl rfl fun a s => ?_
   refine gm s rfl rfl fun a s => ?_
   refine gy s rfl (y_geq s rfl rfl) fun a s => ?_
   refine qq s rfl (y_pick_t s rfl rfl) fun a s => ?_
   apply wN
   exact ⟨(decide ((0 : Int) ≤ r6)), hg, (s.sb rfl rfl rfl)⟩
  have hs16e := decide_eq_false hs16
  replace hg := br_f hg hs16
  apply wL
  refine mv s rfl rfl fun a s => ?_
  refine qq s rfl (y_boxField (o' := 3) s rfl underlying26 rfl rfl rfl) fun a s => ?_
  refine qq s rfl (y_loadBox1 (kk := 1000) s rfl rfl rfl underlying23 rfl) fun a s => ?_
  refine qq s rfl (y_lenSlice s rfl underlying23) fun a s => ?_
  refine qq s rfl (yl_b (y_lssN (i := t_13) (j := ((t_.Rels).length)) s rfl rfl) hs16e) fun a s => ?_
  refine mv s rfl rfl fun a s => ?_
  refine gn s rfl fun a s => ?_
  refine gn s rfl fun a s => ?_
  refine qq s rfl (y_pick_f s rfl rfl) fun a s => ?_
  apply wN
  exact ⟨(false), hg, (s.sb rfl rfl rfl)⟩
 clear s a; rintro a w ⟨t_15, hg, s⟩
 subst hk14
 refine c_cond s rfl (fun hc18 => ?_) (fun hc18 => ?_)
 ·replace hg := br_t hg hc18
  apply wp_skip
  apply pN
  apply wQ
  apply wp_block
  apply wR
  refine asg s rfl rfl fun a s => ?_
  apply wN
  apply wQ
  apply wR
  refine asg s rfl rfl fun a s => ?_
  apply wN
  obtain ⟨k19, hg, hk19⟩ := jn_some hg
  refine c_post (fun a w => ∃ (t_20 : Bool), k19 t_20 = some r ∧ St (⟨Tryz.f42.ntmps, M, noB, w0⟩ : Ctx) [(1, sl Ap11 (t_') cp11), (2, vI (t_'')), (3, vP b2 0), (7, vI r6), (8, vI (((t_13 : Nat) : Int))), (9, .bool (t_20))] [(1000, Ob.box b2 [vI (t_.Top), vI (t_.Index), sl Ap03 (t_.Vars) cp03, sl Ap04 (t_.Rels) cp04, sl Ap05 (t_.Cons) cp05] 26)] [(101, slF Rep.str (Ap03) ((t_.Vars).length) (cp03) (t_.Vars)), (102, slF REP (Ap04) ((t_.Rels).length) (cp04) (t_.Rels)), (103, slF RQeq (Ap05) ((t_.Cons).length) (cp05) (t_.Cons)), (104, slF (Rep.num .i64) (Ap11) ((t_').length) (cp11) (t_'))] a w) ?_ ?_
  ·apply wp_block
   refine c_loop (σ := Nat) (fun m2 a w => ∃ (t_21 : Bool) (t_22 : Nat), r41_binds_L1 n t_ r6 t_13 k19 m2 t_21 t_22 = some r ∧ St (⟨Tryz.f42.ntmps, M, noB, w0⟩ : Ctx) [(1, sl Ap11 (t_') cp11), (2, vI (t_'')), (3, vP b2 0), (7, vI r6), (8, vI (((t_13 : Nat) : Int))), (9, .bool (t_21)), (10, vI (((t_22 : Nat) : Int)))] [(1000, Ob.box b2 [vI (t_.Top), vI (t_.Index), sl Ap03 (t_.Vars) cp03, sl Ap04 (t_.Rels) cp04, sl Ap05 (t_.Cons) cp05] 26)] [(101, slF Rep.str (Ap03) ((t_.Vars).length) (cp03) (t_.Vars)), (102, slF REP (Ap04) ((t_.Rels).length) (cp04) (t_.Rels)), (103, slF RQeq (Ap05) ((t_.Cons).length) (cp05) (t_.Cons)), (104, slF (Rep.num .i64) (Ap11) ((t_').length) (cp11) (t_'))] a w) (fun m2 => m2) n ⟨(false), (0), hg, (s.sb rfl rfl rfl)⟩ ?_
   clear s a; rintro m2 a w ⟨t_21, t_22, hg, s⟩
   rcases m2 with _ | m2
   ·rw [r41_binds_L1] at hg; cases hg
   rw [r41_binds_L1] at hg
   apply wQ
   apply wQ
   obtain ⟨x24, hx24, hg⟩ := bind_some hg
   apply wL
   refine mv s rfl rfl fun a s => ?_
   refine qq s rfl (y_boxField (o' := 3) s rfl underlying26 rfl rfl rfl) fun a s => ?_
   refine qq s rfl (y_loadBox1 (kk := 1000) s rfl rfl rfl underlying23 rfl) fun a s => ?_
   refine mv s rfl rfl fun a s => ?_
   obtain ⟨p26, hep26, hpp26⟩ := SlR.elemX (s.ft 102 rfl) hx24
   refine qq s rfl (y_elem (sz := 3) (i := t_13) s rfl rfl underlying23 rfl hep26 rfl (lt_of_get hx24)) fun a s => ?_
   refine qq s rfl (y_ptrField (o' := 2) s rfl underlying43 rfl rfl rfl) fun a s => ?_
   obtain ⟨hlq27, hmq27, csq27, hdq27, hcq27⟩ := hpp26
   obtain ⟨Aq273, cq273, rfl, lq271, hq273⟩ := REP.open hdq27
   replace s := s.ns 108 hq273
   refine qq s rfl (y_ldp1 s rfl hlq27 hmq27 (hcq27 2 _ rfl) underlying41 rfl) fun a s => ?_
   refine qq s rfl (y_lenSlice s rfl underlying41) fun a s => ?_
   refine qq s rfl (y_lssN (i := t_22) (j := ((x24.Args).length)) s rfl rfl) fun a s => ?_
   apply wN
   refine c_dec s rfl (fun hc28 => ?_) (fun hc28 => ?_)
   ·replace hg := br_t hg hc28
    have hmx29 := SlR.mx (s.ft 108 rfl)
    apply wp_skip
    apply pN
    apply wQ
    apply wp_block
    rcases Bool.eq_false_or_eq_true (t_21) with hs30 | hs30
    ·replace hg := br_t hg hs30
     apply wL
     refine qq s rfl (yl_b (y_move s rfl) hs30) fun a s => ?_
     refine mv s rfl rfl fun a s => ?_
     refine gn s rfl fun a s => ?_
     refine gn s rfl fun a s => ?_
     refine gn s rfl fun a s => ?_
     refine gn s rfl fun a s => ?_
     refine gn s rfl fun a s => ?_
     refine gn s rfl fun a s => ?_
     refine gn s rfl fun a s => ?_
     refine gn s rfl fun a s => ?_
     refine gn s rfl fun a s => ?_
     refine gn s rfl fun a s => ?_
     refine gn s rfl fun a s => ?_
     refine gn s rfl fun a s => ?_
     refine qq s rfl (y_pick_t s rfl rfl) fun a s => ?_
     refine asg s rfl rfl fun a s => ?_
     apply wO
     refine p_inN ?_
     apply pN
     apply wL
     refine mv s rfl rfl fun a s => ?_
     refine qq s rfl (y_addN (i := t_22) (j := 1) s rfl rfl (in64.2 (by omega))) fun a s => ?_
     refine asg s rfl rfl fun a s => ?_
     apply wN
     exact ⟨m2, Nat.lt_succ_self _, ⟨(true), (t_22 + 1), hg, (s.sb rfl rfl rfl)⟩⟩
    replace hg := br_n hg hs30
    obtain ⟨x34, hx34, hg⟩ := bind_some hg
    apply wL
    refine qq s rfl (yl_b (y_move s rfl) hs30) fun a s => ?_
    refine mv s rfl rfl fun a s => ?_
    refine gy s rfl (y_boxField (o' := 3) s rfl underlying26 rfl rfl rfl) fun a s => ?_
    refine gy s rfl (y_loadBox1 (kk := 1000) s rfl rfl rfl underlying23 rfl) fun a s => ?_
    refine gm s rfl rfl fun a s => ?_
    obtain ⟨p36, hep36, hpp36⟩ := SlR.elemX (s.ft 102 rfl) hx24
    refine gy s rfl (y_elem (sz := 3) (i := t_13) s rfl rfl underlying23 rfl hep36 rfl (lt_of_get hx24)) fun a s => ?_
    refine gy s rfl (y_ptrField (o' := 2) s rfl underlying43 rfl rfl rfl) fun a s => ?_
    obtain ⟨hlq37, hmq37, csq37, hdq37, hcq37⟩ := hpp36
    obtain ⟨Aq373, cq373, rfl, lq371, hq373⟩ := REP.open hdq37
    replace s := s.ns 110 hq373
    refine gy s rfl (y_ldp1 s rfl hlq37 hmq37 (hcq37 2 _ rfl) underlying41 rfl) fun a s => ?_
    refine gm s rfl rfl fun a s => ?_
    obtain ⟨p38, hep38, hpp38⟩ := SlR.elemX (s.ft 110 rfl) hx34
    refine gy s rfl (y_elem (sz := 2) (i := t_22) s rfl rfl underlying41 rfl hep38 rfl (lt_of_get hx34)) fun a s => ?_
    refine gy s rfl (y_ptrField (o' := 1) s rfl underlying45 rfl rfl rfl) fun a s => ?_
    obtain ⟨hlq39, hmq39, csq39, hdq39, hcq39⟩ := hpp38
    obtain ⟨rfl, lq391⟩ := RArg.open hdq39
    refine gy s rfl (y_ldp1 s rfl hlq39 hmq39 (hcq39 1 _ rfl) underlying3 rfl) fun a s => ?_
    refine gm s rfl rfl fun a s => ?_
    refine gy s rfl (y_eql s rfl rfl) fun a s => ?_
    refine qq s rfl (y_pick_f s rfl rfl) fun a s => ?_
    refine asg s rfl rfl fun a s => ?_
    apply wO
    refine p_inN ?_
    apply pN
    apply wL
    refine mv s rfl rfl fun a s => ?_
    refine qq s rfl (y_addN (i := t_22) (j := 1) s rfl rfl (in64.2 (by omega))) fun a s => ?_
    refine asg s rfl rfl fun a s => ?_
    apply wN
    exact ⟨m2, Nat.lt_succ_self _, ⟨(decide (x34.Var = r6)), (t_22 + 1), hg, (s.sb rfl rfl rfl)⟩⟩
   replace hg := br_f hg hc28
   apply wp_exit
   refine p_then ?_
   refine p_then ?_
   refine p_in ?_
   apply pN
   exact ⟨(t_21), hg, (s.sb rfl rfl rfl)⟩
  clear s a; rintro a w ⟨t_20, hg, s⟩
  subst hk19
  apply wQ
  obtain ⟨k40, hg, hk40⟩ := jn_some hg
  refine c_post (fun a w => ∃ (t_41 : Bool), k40 t_41 = some r ∧ St (⟨Tryz.f42.ntmps, M, noB, w0⟩ : Ctx) [(1, sl Ap11 (t_') cp11), (2, vI (t_'')), (3, vP b2 0), (7, vI r6), (8, vI (((t_13 : Nat) : Int))), (76, .bool (t_41))] [(1000, Ob.box b2 [vI (t_.Top), vI (t_.Index), sl Ap03 (t_.Vars) cp03, sl Ap04 (t_.Rels) cp04, sl Ap05 (t_.Cons) cp05] 26)] [(101, slF Rep.str (Ap03) ((t_.Vars).length) (cp03) (t_.Vars)), (102, slF REP (Ap04) ((t_.Rels).length) (cp04) (t_.Rels)), (103, slF RQeq (Ap05) ((t_.Cons).length) (cp05) (t_.Cons)), (104, slF (Rep.num .i64) (Ap11) ((t_').length) (cp11) (t_'))] a w) ?_ ?_
  ·rcases Bool.eq_false_or_eq_true (t_20) with hs42 | hs42
   ·replace hg := br_t hg hs42
    rcases Decidable.em (((t_13 : Nat) : Int) ≠ t_'') with hs43 | hs43
    ·have hs43e := decide_eq_true hs43
     replace hg := br_t hg hs43
     obtain ⟨x47, hx47, hg⟩ := bind_some hg
     obtain ⟨r49, hr49, hg⟩ := bind_some hg
     refine d_plan s [] [(0, some 0), (1, some 0), (2, some 0), (3, some 0), (4, some 0), (5, some 0), (6, some 0), (7, some 1000), (8, some 0), (9, some 0), (10, some 1000), (11, some 0), (12, some 0), (13, some 0), (14, some 0), (15, some 1000), (16, some 0), (17, some 0), (18, some 0), (19, some 0), (20, none), (21, none), (22, none)] rfl (by kernel_rfl) (by kernel_rfl) rfl ?_; clear s; intro wr hZ s; have hR := s.wd
     refine qt s hR rfl (yl_b (y_move s rfl) hs42) fun a s => ?_
     refine qt s hR rfl (y_move s rfl) fun a s => ?_
     refine qg s hR rfl (y_move s rfl) fun a s => ?_
     refine qg s hR rfl (y_move s rfl) fun a s => ?_
     refine qg s hR rfl (yl_b (y_neq s rfl rfl) hs43e) fun a s => ?_
     refine qt s hR rfl (y_pick_t s rfl rfl) fun a s => ?_
     refine qt s hR rfl (y_move s rfl) fun a s => ?_
     refine qg s hR rfl (y_loadAll (kk := 1000) s rfl rfl underlying26 rfl rfl) fun a s => ?_
     refine qg s hR rfl (y_move s rfl) fun a s => ?_
     refine qg s hR rfl (y_boxField (o' := 3) s rfl underlying26 rfl rfl rfl) fun a s => ?_
     refine qg s hR rfl (y_loadBox1 (kk := 1000) s rfl rfl rfl underlying23 rfl) fun a s => ?_
     refine qg s hR rfl (y_move s rfl) fun a s => ?_
     obtain ⟨p52, hep52, hpp52⟩ := SlR.elemX (s.ft 102 rfl) (ix_some hx4).1
     refine qg s hR rfl (y_elem (sz := 3) (i := ((t_'').toNat)) s rfl rfl underlying23 rfl hep52 (ix_some hx4).2.1 (lt_of_get (ix_some hx4).1)) fun a s => ?_
     obtain ⟨hlq53, hmq53, csq53, hdq53, hcq53⟩ := hpp52
     obtain ⟨Aq533, cq533, rfl, lq531, hq533⟩ := REP.open hdq53
     replace s := s.ns 113 hq533
     refine qg s hR rfl (y_ldp s rfl hlq53 hmq53 (by simpa using hcq53) underlying43 rfl rfl) fun a s => ?_
     refine qg s hR rfl (y_boxField (o' := 3) s rfl underlying26 rfl rfl rfl) fun a s => ?_
     refine qg s hR rfl (y_loadBox1 (kk := 1000) s rfl rfl rfl underlying23 rfl) fun a s => ?_
     refine qg s hR rfl (y_move s rfl) fun a s => ?_
     obtain ⟨p54, hep54, hpp54⟩ := SlR.elemX (s.ft 102 rfl) hx47
     refine qg s hR rfl (y_elem (sz := 3) (i := t_13) s rfl rfl underlying23 rfl hep54 rfl (lt_of_get hx47)) fun a s => ?_
     refine qg s hR rfl (y_ptrField (o' := 1) s rfl underlying43 rfl rfl rfl) fun a s => ?_
     obtain ⟨hlq55, hmq55, csq55, hdq55, hcq55⟩ := hpp54
     obtain ⟨Aq553, cq553, rfl, lq551, hq553⟩ := REP.open hdq55
     replace s := s.ns 114 hq553
     refine qg s hR rfl (y_ldp1 s rfl hlq55 hmq55 (hcq55 1 _ rfl) underlying3 rfl) fun a s => ?_
     refine l_take s rfl ⟨_, _, _, rfl, rfl, rfl, rfl⟩ (l_call (cap := []) s rfl func58 rfl (by kernel_rfl) rfl rfl (c_r41_under n _ _ s.lt t_ (Ap03) (cp03) (Ap04) (cp04) (Ap05) (cp05) (s.ft 101 rfl) (s.ft 102 rfl) (s.ft 103 rfl) t_' (Ap11) (cp11) (s.ft 104 rfl) x4 (Aq533) (cq533) (by omega) (s.ft 113 rfl) x47.Label r49 hr49) fun v56 a w hK hp s => ?_)
     replace hZ := Nat.le_trans hZ hK.size; refine ⟨fun g _ h => h.grow hK, ?_⟩; clear hK
     obtain rfl := hp
     refine l_take s rfl ⟨_, _, _, rfl, rfl, rfl, rfl⟩ (l_quiet s rfl rfl (y_not s rfl) fun a s => ?_); refine ⟨fun g _ h => h, ?_⟩
     refine l_take s rfl rfl (l_quiet s rfl rfl (y_pick_t s rfl rfl) fun a s => ?_); refine ⟨fun g _ h => h, ?_⟩
     clear hR hZ
     apply pN
     exact ⟨(!(r49)), hg, (s.sb rfl rfl rfl)⟩
    have hs43e := decide_eq_false hs43
    replace hg := br_f hg hs43
    refine d_plan s [] [(0, some 0), (1, some 0), (2, some 0), (3, some 0), (4, some 0), (5, some 0), (6, some 0), (7, some 0), (8, some 0), (9, some 0), (10, some 0), (11, some 0), (12, some 0), (13, some 0), (14, some 0), (15, some 0), (16, some 0), (17, some 0), (18, some 0), (19, some 0), (20, some 0), (21, some 0), (22, some 0)] rfl (by kernel_rfl) (by kernel_rfl) rfl ?_; clear s; intro wr hZ s; have hR := s.wd
    refine qt s hR rfl (yl_b (y_move s rfl) hs42) fun a s => ?_
    refine qt s hR rfl (y_move s rfl) fun a s => ?_
    refine qg s hR rfl (y_move s rfl) fun a s => ?_
    refine qg s hR rfl (y_move s rfl) fun a s => ?_
    refine qg s hR rfl (yl_b (y_neq s rfl rfl) hs43e) fun a s => ?_
    refine qt s hR rfl (y_pick_t s rfl rfl) fun a s => ?_
    refine qt s hR rfl (y_move s rfl) fun a s => ?_
    refine q_pass s hR rfl rfl ⟨_, _, _, rfl, rfl, rfl, rfl⟩ rfl fun a s => ?_
    refine q_pass s hR rfl rfl ⟨_, _, _, rfl, rfl, rfl, rfl⟩ rfl fun a s => ?_
    refine q_pass s hR rfl rfl ⟨_, _, _, rfl, rfl, rfl, rfl⟩ rfl fun a s => ?_
    refine q_pass s hR rfl rfl ⟨_, _, _, rfl, rfl, rfl, rfl⟩ rfl fun a s => ?_
    refine q_pass s hR rfl rfl ⟨_, _, _, rfl, rfl, rfl, rfl⟩ rfl fun a s => ?_
    refine q_pass s hR rfl rfl ⟨_, _, _, rfl, rfl, rfl, rfl⟩ rfl fun a s => ?_
    refine q_pass s hR rfl rfl ⟨_, _, _, rfl, rfl, rfl, rfl⟩ rfl fun a s => ?_
    refine q_pass s hR rfl rfl ⟨_, _, _, rfl, rfl, rfl, rfl⟩ rfl fun a s => ?_
    refine q_pass s hR rfl rfl ⟨_, _, _, rfl, rfl, rfl, rfl⟩ rfl fun a s => ?_
    refine q_pass s hR rfl rfl ⟨_, _, _, rfl, rfl, rfl, rfl⟩ rfl fun a s => ?_
    refine q_pass s hR rfl rfl ⟨_, _, _, rfl, rfl, rfl, rfl⟩ rfl fun a s => ?_
    refine q_pass s hR rfl rfl ⟨_, _, _, rfl, rfl, rfl, rfl⟩ rfl fun a s => ?_
    refine q_pass s hR rfl rfl ⟨_, _, _, rfl, rfl, rfl, rfl⟩ rfl fun a s => ?_
    refine q_pass s hR rfl rfl ⟨_, _, _, rfl, rfl, rfl, rfl⟩ rfl fun a s => ?_
    refine q_pass s hR rfl rfl ⟨_, _, _, rfl, rfl, rfl, rfl⟩ rfl fun a s => ?_
    refine qt s hR rfl (y_pick_f s rfl rfl) fun a s => ?_
    clear hR hZ
    apply pN
    exact ⟨(false), hg, (s.sb rfl rfl rfl)⟩
   replace hg := br_n hg hs42
   refine d_plan s [] [(0, some 0), (1, some 0), (2, some 0), (3, some 0), (4, some 0), (5, some 0), (6, some 0), (7, some 0), (8, some 0), (9, some 0), (10, some 0), (11, some 0), (12, some 0), (13, some 0), (14, some 0), (15, some 0), (16, some 0), (17, some 0), (18, some 0), (19, some 0), (20, some 0), (21, some 0), (22, some 0)] rfl (by kernel_rfl) (by kernel_rfl) rfl ?_; clear s; intro wr hZ s; have hR := s.wd
   refine qt s hR rfl (yl_b (y_move s rfl) hs42) fun a s => ?_
   refine qt s hR rfl (y_move s rfl) fun a s => ?_
   refine q_pass s hR rfl rfl ⟨_, _, _, rfl, rfl, rfl, rfl⟩ rfl fun a s => ?_
   refine q_pass s hR rfl rfl ⟨_, _, _, rfl, rfl, rfl, rfl⟩ rfl fun a s => ?_
   refine q_pass s hR rfl rfl ⟨_, _, _, rfl, rfl, rfl, rfl⟩ rfl fun a s => ?_
   refine qt s hR rfl (y_pick_f s rfl rfl) fun a s => ?_
   refine qt s hR rfl (y_move s rfl) fun a s => ?_
   refine q_pass s hR rfl rfl ⟨_, _, _, rfl, rfl, rfl, rfl⟩ rfl fun a s => ?_
   refine q_pass s hR rfl rfl ⟨_, _, _, rfl, rfl, rfl, rfl⟩ rfl fun a s => ?_
   refine q_pass s hR rfl rfl ⟨_, _, _, rfl, rfl, rfl, rfl⟩ rfl fun a s => ?_
   refine q_pass s hR rfl rfl ⟨_, _, _, rfl, rfl, rfl, rfl⟩ rfl fun a s => ?_
   refine q_pass s hR rfl rfl ⟨_, _, _, rfl, rfl, rfl, rfl⟩ rfl fun a s => ?_
   refine q_pass s hR rfl rfl ⟨_, _, _, rfl, rfl, rfl, rfl⟩ rfl fun a s => ?_
   refine q_pass s hR rfl rfl ⟨_, _, _, rfl, rfl, rfl, rfl⟩ rfl fun a s => ?_
   refine q_pass s hR rfl rfl ⟨_, _, _, rfl, rfl, rfl, rfl⟩ rfl fun a s => ?_
   refine q_pass s hR rfl rfl ⟨_, _, _, rfl, rfl, rfl, rfl⟩ rfl fun a s => ?_
   refine q_pass s hR rfl rfl ⟨_, _, _, rfl, rfl, rfl, rfl⟩ rfl fun a s => ?_
   refine q_pass s hR rfl rfl ⟨_, _, _, rfl, rfl, rfl, rfl⟩ rfl fun a s => ?_
   refine q_pass s hR rfl rfl ⟨_, _, _, rfl, rfl, rfl, rfl⟩ rfl fun a s => ?_
   refine q_pass s hR rfl rfl ⟨_, _, _, rfl, rfl, rfl, rfl⟩ rfl fun a s => ?_
   refine q_pass s hR rfl rfl ⟨_, _, _, rfl, rfl, rfl, rfl⟩ rfl fun a s => ?_
   refine q_pass s hR rfl rfl ⟨_, _, _, rfl, rfl, rfl, rfl⟩ rfl fun a s => ?_
   refine qt s hR rfl (y_pick_f s rfl rfl) fun a s => ?_
   clear hR hZ
   apply pN
   exact ⟨(false), hg, (s.sb rfl rfl rfl)⟩
  clear s a; rintro a w ⟨t_41, hg, s⟩
  subst hk40
  refine c_cond s rfl (fun hc58 => ?_) (fun hc58 => ?_)
  ·replace hg := br_t hg hc58
   apply wR
   refine asg s rfl rfl fun a s => ?_
   apply wN
   apply wp_ret
   refine p_inR ?_
   refine p_thenR ?_
   refine p_thenR ?_
   refine p_inR ?_
   refine p_thenR ?_
   obtain rfl := Option.some.inj hg
   refine fin1 (fn := Tryz.f42) s rfl (r_tmp s rfl) ?_
   exact rfl
  replace hg := br_n hg hc58
  apply wp_skip
  refine p_inN ?_
  apply pN
  obtain ⟨hk59, hg⟩ := chk_some hg
  apply wL
  refine mv s rfl rfl fun a s => ?_
  refine qq s rfl (y_addN (i := t_13) (j := 1) s rfl rfl (in64.2 (by omega))) fun a s => ?_
  refine asg s rfl rfl fun a s => ?_
  apply wN
  exact ⟨m1, Nat.lt_succ_self _, ⟨(t_13 + 1), hg, (s.sb rfl rfl rfl)⟩⟩
 replace hg := br_n hg hc18
 apply wp_exit
 refine p_then ?_
 refine p_then ?_
 refine p_in ?_
 apply pN
 apply wR
 refine asg s rfl rfl fun a s => ?_
 apply wN
 apply wp_ret
 obtain rfl := Option.some.inj hg
 refine fin1 (fn := Tryz.f42) s rfl (r_tmp s rfl) ?_
 exact rfl
end Go.Proofs.YtegboboemepifaaGreatDoor

