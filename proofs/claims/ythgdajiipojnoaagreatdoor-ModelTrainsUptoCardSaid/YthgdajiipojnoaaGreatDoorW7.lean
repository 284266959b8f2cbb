/- Chapter 37: the walks, part 7 -/
import Derived.Test.YthgdajiipojnoaaGreatDoorW6
namespace Go.Proofs.YthgdajiipojnoaaGreatDoor
open Go.Gl Go.RowKit Tryz
set_option linter.unusedVariables false
set_option linter.unusedSimpArgs false
set_option maxRecDepth 4000

set_option maxHeartbeats 400000 in
theorem c_law37_exampleHolds (n : Nat) (M : Bs) (w0 : World) (hM : ∀ b, M b → b < w0.heap.size)  (r : Bool) (hg : law37_exampleHolds n = some r) :
    Calls Tryz.prog 6 [].toArray w0 (Ret noB w0 fun v w => v = .bool (r)) := by
 unfold law37_exampleHolds at hg
 refine enter M noB func6 rfl rfl hM ?_
 intro a s
 apply wR
 refine asg s rfl rfl fun a s => ?_
 apply wN
 apply wQ
 obtain ⟨r1, hr1, hg⟩ := bind_some hg
 obtain ⟨r4, hr4, hg⟩ := bind_some hg
 apply wL
 refine l_seq rfl (l_call (cap := []) s rfl func12 rfl (by kernel_rfl) rfl rfl (c_law37_leaf n _ _ s.lt [97] (by first | omega | (rw [List.length_append]; omega) | (simp only [List.length_append]; omega) | (simp only [List.length_append, List.length_take, List.length_drop, List.length_cons, List.length_nil]; omega) | exact smin_len (by omega) (by omega)) 0 1 r1 hr1) fun v8 a w hK hp s => ?_)
 obtain ⟨Au9a5, cu9a5, rfl, lu9a2, hu9a5⟩ := hp
 replace s := s.ns 103 hu9a5
 refine l_seq rfl (l_call (cap := []) s rfl func12 rfl (by kernel_rfl) rfl rfl (c_law37_leaf n _ _ s.lt [98] (by first | omega | (rw [List.length_append]; omega) | (simp only [List.length_append]; omega) | (simp only [List.length_append, List.length_take, List.length_drop, List.length_cons, List.length_nil]; omega) | exact smin_len (by omega) (by omega)) 0 1 r4 hr4) fun v10 a w hK hp s => ?_)
 obtain ⟨Au11a5, cu11a5, rfl, lu11a2, hu11a5⟩ := hp
 replace s := s.ns 104 hu11a5
 refine l_seq rfl (l_buildDense (sz := 5) s 1102 rfl rfl rfl underlying35 rfl rfl rfl rfl rfl rfl rfl fun b12 a w hbb12 hK s => ?_)
 clear hbb12
 refine asg s rfl rfl fun a s => ?_
 apply wN
 apply wQ
 obtain ⟨r14, hr14, hg⟩ := bind_some hg
 apply wL
 refine qq s rfl (y_build (parts := []) (ps := []) (cells := #[.slice (none) (0) (0)]) s rfl (by kernel_rfl)) fun a s => ?_
 refine mv s rfl rfl fun a s => ?_
 replace s := s.add 110 (rdF RDeriv (cellsOfL [.agg #[vI (r1.Kind), vT (r1.Name), vI (r1.From), vI (r1.To), sl Au9a5 (r1.Kids) cu9a5], .agg #[vI (r4.Kind), vT (r4.Name), vI (r4.From), vI (r4.To), sl Au11a5 (r4.Kids) cu11a5]]) ([r1, r4])) (RdAll.cons (by exact (RDeriv.mk' (x := r1) (by omega) (s.ft 103 rfl))) (RdAll.cons (by exact (RDeriv.mk' (x := r4) (by omega) (s.ft 104 rfl))) (RdAll.nil _ _ _)))
 replace s := s.freeze (R := RDeriv) (kk := 1102) (L' := []) 111 rfl rfl (s.ft 110 rfl) trivial rfl
 refine qq s rfl (y_build (parts := [(0, .tmp 11), (1, .const (vI 1))]) (ps := [(0, .slice (some ⟨b12, 0, none⟩) (2) (2)), (1, vI 1)]) (cells := #[.slice (some ⟨b12, 0, none⟩) (2) (2), vI 1]) s rfl (by kernel_rfl)) fun a s => ?_
 refine l_seq rfl (l_buildDense (sz := 2) s 1203 rfl rfl rfl underlying25 rfl rfl rfl rfl rfl rfl rfl fun b18 a w hbb18 hK s => ?_)
 clear hbb18
 replace s := s.add 112 (rdF RJudged (cellsOfL [.agg #[.slice (some ⟨b12, 0, none⟩) (2) (2), vI 1]]) ([(Judged.mk [r1, r4] 1)])) (RdAll.cons (by exact (RJudged.mk' (x := (Judged.mk [r1, r4] 1)) (s.ft 111 rfl))) (RdAll.nil _ _ _))
 replace s := s.freeze (R := RJudged) (kk := 1203) (L' := []) 113 rfl rfl (s.ft 112 rfl) trivial rfl
 refine l_seq rfl (l_call (cap := []) s rfl func7 rfl (by kernel_rfl) rfl rfl (c_model_Train n _ _ s.lt (Model.mk []) (none) (0) (SlR.nil_ _ _ _) [(Judged.mk [r1, r4] 1)] (some ⟨b18, 0, none⟩) (1) (s.ft 113 rfl) 1 r14 hr14) fun v19 a w hK hp s => ?_)
 obtain ⟨Au20a1, cu20a1, rfl, hu20a1⟩ := hp
 replace s := s.ns 114 hu20a1
 refine mv s rfl rfl fun a s => ?_
 refine qq s rfl (y_extract s rfl rfl) fun a s => ?_
 refine qq s rfl (y_extract s rfl rfl) fun a s => ?_
 refine l_seq rfl (l_alloc (zs := [.slice (none) (0) (0)]) s 1208 rfl rfl rfl rfl fun b21 a w hb hK s => ?_)
 refine l_seq rfl (l_store (n := 1) (cs' := [sl Au20a1 (r14.1.Weights) cu20a1]) s 1208 rfl rfl rfl rfl rfl rfl rfl rfl ?_); clear s; intro w hK s; clear hK
 refine asg s rfl rfl fun a s => ?_
 apply wN
 apply wQ
 obtain ⟨r22, hr22, hg⟩ := bind_some hg
 obtain ⟨r25, hr25, hg⟩ := bind_some hg
 apply wL
 refine l_seq rfl (l_call (cap := []) s rfl func12 rfl (by kernel_rfl) rfl rfl (c_law37_leaf n _ _ s.lt [100, 101, 116] (by first | omega | (rw [List.length_append]; omega) | (simp only [List.length_append]; omega) | (simp only [List.length_append, List.length_take, List.length_drop, List.length_cons, List.length_nil]; omega) | exact smin_len (by omega) (by omega)) 0 1 r22 hr22) fun v30 a w hK hp s => ?_)
 obtain ⟨Au31a5, cu31a5, rfl, lu31a2, hu31a5⟩ := hp
 replace s := s.ns 119 hu31a5
 refine l_seq rfl (l_call (cap := []) s rfl func12 rfl (by kernel_rfl) rfl rfl (c_law37_leaf n _ _ s.lt [110] (by first | omega | (rw [List.length_append]; omega) | (simp only [List.length_append]; omega) | (simp only [List.length_append, List.length_take, List.length_drop, List.length_cons, List.length_nil]; omega) | exact smin_len (by omega) (by omega)) 1 2 r25 hr25) fun v32 a w hK hp s => ?_)
 obtain ⟨Au33a5, cu33a5, rfl, lu33a2, hu33a5⟩ := hp
 replace s := s.ns 120 hu33a5
 refine l_seq rfl (l_buildDense (sz := 5) s 1302 rfl rfl rfl underlying35 rfl rfl rfl rfl rfl rfl rfl fun b34 a w hbb34 hK s => ?_)
 clear hbb34
 replace s := s.add 121 (rdF RDeriv (cellsOfL [.agg #[vI (r22.Kind), vT (r22.Name), vI (r22.From), vI (r22.To), sl Au31a5 (r22.Kids) cu31a5], .agg #[vI (r25.Kind), vT (r25.Name), vI (r25.From), vI (r25.To), sl Au33a5 (r25.Kids) cu33a5]]) ([r22, r25])) (RdAll.cons (by exact (RDeriv.mk' (x := r22) (by omega) (s.ft 119 rfl))) (RdAll.cons (by exact (RDeriv.mk' (x := r25) (by omega) (s.ft 120 rfl))) (RdAll.nil _ _ _)))
 replace s := s.freeze (R := RDeriv) (kk := 1302) (L' := [(1208, Ob.box b21 [sl Au20a1 (r14.1.Weights) cu20a1] 24)]) 122 rfl rfl (s.ft 121 rfl) ⟨rfl, trivial⟩ rfl
 refine qq s rfl (y_build (parts := [(0, .const (vI 2)), (1, .const (vT ([110, 112]))), (3, .const (vI 2)), (4, .tmp 19)]) (ps := [(0, vI 2), (1, vT ([110, 112])), (3, vI 2), (4, .slice (some ⟨b34, 0, none⟩) (2) (2))]) (cells := #[vI 2, vT ([110, 112]), vI 0, vI 2, .slice (some ⟨b34, 0, none⟩) (2) (2)]) s rfl (by kernel_rfl)) fun a s => ?_
 refine l_seq rfl (l_alloc (zs := [vI 0, vT ([]), vI 0, vI 0, .slice (none) (0) (0)]) s 1304 rfl rfl rfl rfl fun b35 a w hb hK s => ?_)
 refine l_seq rfl (l_store (n := 5) (cs' := [vI 2, vT ([110, 112]), vI 0, vI 2, .slice (some ⟨b34, 0, none⟩) (2) (2)]) s 1304 rfl rfl rfl rfl rfl rfl rfl rfl ?_); clear s; intro w hK s; clear hK
 apply wN
 apply wQ
 obtain ⟨r36, hr36, hg⟩ := bind_some hg
 apply wL
 refine qq s rfl (y_loadAll (kk := 1304) s rfl rfl underlying42 rfl rfl) fun a s => ?_
 refine l_seq rfl (l_call (cap := []) s rfl func13 rfl (by kernel_rfl) rfl rfl (c_model_Features n _ _ s.lt (Deriv.mk 2 [110, 112] 0 2 [r22, r25]) (some ⟨b34, 0, none⟩) (2) (by first | omega | (rw [List.length_append]; omega) | (simp only [List.length_append]; omega) | (simp only [List.length_append, List.length_take, List.length_drop, List.length_cons, List.length_nil]; omega) | exact smin_len (by omega) (by omega)) (s.ft 122 rfl) r36 hr36) fun v39 a w hK hp s => ?_)
 obtain ⟨Au40a1, cu40a1, rfl, hu40a1⟩ := hp
 replace s := s.ns 124 hu40a1
 refine asg s rfl rfl fun a s => ?_
 apply wN
 apply wQ
 rcases Decidable.em (r14.2 = 0) with hs41 | hs41
 ·have hs41e := decide_eq_true hs41
  replace hg := br_t hg hs41
  obtain ⟨r43, hr43, hg⟩ := bind_some hg
  rcases Bool.eq_false_or_eq_true (r43) with hs46 | hs46
  ·replace hg := br_t hg hs46
   obtain ⟨r47, hr47, hg⟩ := bind_some hg
   rcases Decidable.em (r47 = 1) with hs50 | hs50
   ·have hs50e := decide_eq_true hs50
    replace hg := br_t hg hs50
    obtain ⟨x52, hx52, hg⟩ := bind_some hg
    obtain ⟨r54, hr54, hg⟩ := bind_some hg
    rcases Decidable.em (r54 = 1) with hs57 | hs57
    ·have hs57e := decide_eq_true hs57
     replace hg := br_t hg hs57
     rcases Decidable.em (((r36).length) = 4) with hs58 | hs58
     ·have hs58e := decide_eq_true hs58
      replace hg := br_t hg hs58
      obtain ⟨x60, hx60, hg⟩ := bind_some hg
      rcases Decidable.em ((x60 : List UInt8) = [110, 112]) with hs62 | hs62
      ·have hs62e := decide_eq_true hs62
       replace hg := br_t hg hs62
       obtain ⟨x64, hx64, hg⟩ := bind_some hg
       rcases Decidable.em ((x64 : List UInt8) = [110, 112, 62, 100, 101, 116, 32, 110]) with hs66 | hs66
       ·have hs66e := decide_eq_true hs66
        replace hg := br_t hg hs66
        obtain ⟨x68, hx68, hg⟩ := bind_some hg
        rcases Decidable.em ((x68 : List UInt8) = [110]) with hs70 | hs70
        ·have hs70e := decide_eq_true hs70
         replace hg := br_t hg hs70
         obtain ⟨r72, hr72, hg⟩ := bind_some hg
         refine d_steps s [] rfl ?_; clear s; intro wr hZ s; have hR := s.wd; have hE := Ext.init hR 0
         refine n_q 0 0 s hR rfl (by kernel_rfl) (by kernel_rfl) (by kernel_rfl) rfl rfl rfl (y_move s rfl) fun a s => ?_
         refine n_q 1 0 s hR rfl (by kernel_rfl) (by kernel_rfl) (by kernel_rfl) rfl rfl rfl (yl_b (y_eql s rfl rfl) hs41e) fun a s => ?_
         refine n_q 2 0 s hR rfl (by kernel_rfl) (by kernel_rfl) (by kernel_rfl) rfl rfl rfl (y_move s rfl) fun a s => ?_
         refine n_q 3 1208 s hR rfl (by kernel_rfl) (by kernel_rfl) (by kernel_rfl) rfl ⟨_, _, _, rfl, rfl, rfl, rfl⟩ rfl (y_loadAll (kk := 1208) s rfl rfl underlying24 rfl rfl) fun a s => ?_
         refine n_q 4 0 s hR rfl (by kernel_rfl) (by kernel_rfl) (by kernel_rfl) rfl ⟨_, _, _, rfl, rfl, rfl, rfl⟩ rfl (y_build (parts := [(0, .const (vT ([97]))), (1, .const (vI (-1)))]) (ps := [(0, vT ([97])), (1, vI (-1))]) (cells := #[vT ([97]), vI (-1)]) s rfl (by kernel_rfl)) fun a s => ?_
         refine n_q 5 0 s hR rfl (by kernel_rfl) (by kernel_rfl) (by kernel_rfl) rfl ⟨_, _, _, rfl, rfl, rfl, rfl⟩ rfl (y_build (parts := [(0, .const (vT ([98]))), (1, .const (vI 1))]) (ps := [(0, vT ([98])), (1, vI 1)]) (cells := #[vT ([98]), vI 1]) s rfl (by kernel_rfl)) fun a s => ?_
         refine n_1 6 s (by kernel_rfl) rfl ⟨_, _, _, rfl, rfl, rfl, rfl⟩ (l_buildDense (sz := 2) s 1506 rfl rfl rfl underlying22 rfl rfl rfl rfl rfl rfl rfl fun b75 a w hbb75 hK s => ?_)
         have hNb75 := NewA.lit hZ hbb75
         clear hbb75
         replace hE := hE.grow hK; replace hZ := Nat.le_trans hZ hK.size; refine ⟨fun g _ h => h.grow hK, ?_⟩; clear hK
         replace s := s.add 130 (rdF RWeight (cellsOfL [.agg #[vT ([97]), vI (-1)], .agg #[vT ([98]), vI 1]]) ([(Weight.mk [97] (-1)), (Weight.mk [98] 1)])) (RdAll.cons (by exact (RWeight.mk' (x := (Weight.mk [97] (-1))) (by first | omega | (rw [List.length_append]; omega) | (simp only [List.length_append]; omega) | (simp only [List.length_append, List.length_take, List.length_drop, List.length_cons, List.length_nil]; omega) | exact smin_len (by omega) (by omega)))) (RdAll.cons (by exact (RWeight.mk' (x := (Weight.mk [98] 1)) (by first | omega | (rw [List.length_append]; omega) | (simp only [List.length_append]; omega) | (simp only [List.length_append, List.length_take, List.length_drop, List.length_cons, List.length_nil]; omega) | exact smin_len (by omega) (by omega)))) (RdAll.nil _ _ _)))
         replace s := s.freeze (R := RWeight) (kk := 1506) (L' := [(1208, Ob.box b21 [sl Au20a1 (r14.1.Weights) cu20a1] 24), (1304, Ob.box b35 [vI 2, vT ([110, 112]), vI 0, vI 2, .slice (some ⟨b34, 0, none⟩) (2) (2)] 42)]) 131 rfl rfl (s.ft 130 rfl) ⟨rfl, rfl, trivial⟩ rfl
         refine n_1 7 s (by kernel_rfl) rfl ⟨_, _, _, rfl, rfl, rfl, rfl⟩ (l_quiet s rfl rfl (y_build (parts := [(0, .tmp 29)]) (ps := [(0, .slice (some ⟨b75, 0, none⟩) (2) (2))]) (cells := #[.slice (some ⟨b75, 0, none⟩) (2) (2)]) s rfl (by kernel_rfl)) fun a s => ?_); refine ⟨fun g _ h => h, ?_⟩
         refine n_1 8 s (by kernel_rfl) rfl ⟨_, _, _, rfl, rfl, rfl, rfl⟩ (l_call (cap := []) s rfl func9 rfl (by kernel_rfl) rfl rfl (c_r37_Same n _ _ s.lt r14.1 (Au20a1) (cu20a1) (s.ft 114 rfl) (Model.mk [(Weight.mk [97] (-1)), (Weight.mk [98] 1)]) (some ⟨b75, 0, none⟩) (2) (s.ft 131 rfl) r43 hr43) fun v76 a w hK hp s => ?_)
         replace hE := hE.grow hK; replace hZ := Nat.le_trans hZ hK.size; refine ⟨fun g _ h => h.grow hK, ?_⟩; clear hK
         obtain rfl := hp.trans (congrArg Value.bool hs46)
         refine n_1 9 s (by kernel_rfl) rfl rfl (l_quiet s rfl rfl (y_pick_t s rfl rfl) fun a s => ?_); refine ⟨fun g _ h => h, ?_⟩
         refine n_1 10 s (by kernel_rfl) rfl rfl (l_quiet s rfl rfl (y_move s rfl) fun a s => ?_); refine ⟨fun g _ h => h, ?_⟩
         refine n_ql 12 s hE rfl (by kernel_rfl) (by kernel_rfl) (by kernel_rfl) rfl ⟨_, _, _, rfl, rfl, rfl, rfl⟩ rfl (fun w' s => y_move s rfl) fun a s => ?_
         refine n_1 11 s (by kernel_rfl) rfl ⟨_, _, _, rfl, rfl, rfl, rfl⟩ (l_quiet s rfl rfl (y_loadAll (kk := 1208) s rfl rfl underlying24 rfl rfl) fun a s => ?_); refine ⟨fun g _ h => h, ?_⟩
         refine n_1 13 s (by kernel_rfl) rfl ⟨_, _, _, rfl, rfl, rfl, rfl⟩ (l_call (cap := []) s rfl func14 rfl (by kernel_rfl) rfl rfl (c_model_Best n _ _ s.lt r14.1 (Au20a1) (cu20a1) (s.ft 114 rfl) [r1, r4] (some ⟨b12, 0, none⟩) (2) (s.ft 111 rfl) r47 hr47) fun v78 a w hK hp s => ?_)
         replace hE := hE.grow hK; replace hZ := Nat.le_trans hZ hK.size; refine ⟨fun g _ h => h.grow hK, ?_⟩; clear hK
         obtain rfl := hp
         refine n_1 14 s (by kernel_rfl) rfl ⟨_, _, _, rfl, rfl, rfl, rfl⟩ (l_quiet s rfl rfl (yl_b (y_eql s rfl rfl) hs50e) fun a s => ?_); refine ⟨fun g _ h => h, ?_⟩
         refine n_1 15 s (by kernel_rfl) rfl rfl (l_quiet s rfl rfl (y_pick_t s rfl rfl) fun a s => ?_); refine ⟨fun g _ h => h, ?_⟩
         refine n_1 16 s (by kernel_rfl) rfl rfl (l_quiet s rfl rfl (y_move s rfl) fun a s => ?_); refine ⟨fun g _ h => h, ?_⟩
         refine n_ql 18 s hE rfl (by kernel_rfl) (by kernel_rfl) (by kernel_rfl) rfl ⟨_, _, _, rfl, rfl, rfl, rfl⟩ rfl (fun w' s => y_move s rfl) fun a s => ?_
         obtain ⟨p80, hep80, hpp80⟩ := SlR.elemX (s.ft 111 rfl) hx52
         refine n_ql 19 s hE rfl (by kernel_rfl) (by kernel_rfl) (by kernel_rfl) rfl ⟨_, _, _, rfl, rfl, rfl, rfl⟩ rfl (fun w' s => y_elem (sz := 5) (i := 1) s rfl rfl underlying35 rfl hep80 rfl (lt_of_get hx52)) fun a s => ?_
         refine n_2 17 20 s (by kernel_rfl) rfl ⟨_, _, _, rfl, rfl, rfl, rfl⟩ rfl ⟨_, _, _, rfl, rfl, rfl, rfl⟩ ?_ ?_
         ·refine l_quiet s rfl rfl (y_loadAll (kk := 1208) s rfl rfl underlying24 rfl rfl) fun a s => ?_; refine ⟨fun g _ h => h, ?_⟩
          obtain ⟨hlq81, hmq81, csq81, hdq81, hcq81⟩ := (SlR.again (s.ft 111 rfl) hx52 hep80)
          obtain ⟨Aq815, cq815, rfl, lq812, hq815⟩ := RDeriv.open hdq81
          replace s := s.ns 132 hq815
          refine n_1 20 s (by kernel_rfl) rfl ⟨_, _, _, rfl, rfl, rfl, rfl⟩ (l_quiet s rfl rfl (y_ldp s rfl hlq81 hmq81 (by simpa using hcq81) underlying42 rfl rfl) fun a s => ?_); refine ⟨fun g _ h => h, ?_⟩
          refine n_1 21 s (by kernel_rfl) rfl ⟨_, _, _, rfl, rfl, rfl, rfl⟩ (l_call (cap := []) s rfl func15 rfl (by kernel_rfl) rfl rfl (c_model_Score n _ _ s.lt r14.1 (Au20a1) (cu20a1) (s.ft 114 rfl) x52 (Aq815) (cq815) (by omega) (s.ft 132 rfl) r54 hr54) fun v82 a w hK hp s => ?_)
          replace hE := hE.grow hK; replace hZ := Nat.le_trans hZ hK.size; refine ⟨fun g _ h => h.grow hK, ?_⟩; clear hK
          obtain rfl := hp
          refine n_1 22 s (by kernel_rfl) rfl ⟨_, _, _, rfl, rfl, rfl, rfl⟩ (l_quiet s rfl rfl (yl_b (y_eql s rfl rfl) hs57e) fun a s => ?_); refine ⟨fun g _ h => h, ?_⟩
          refine n_1 23 s (by kernel_rfl) rfl rfl (l_quiet s rfl rfl (y_pick_t s rfl rfl) fun a s => ?_); refine ⟨fun g _ h => h, ?_⟩
          refine n_1 24 s (by kernel_rfl) rfl rfl (l_quiet s rfl rfl (y_move s rfl) fun a s => ?_); refine ⟨fun g _ h => h, ?_⟩
          refine n_1 25 s (by kernel_rfl) rfl ⟨_, _, _, rfl, rfl, rfl, rfl⟩ (l_quiet s rfl rfl (y_move s rfl) fun a s => ?_); refine ⟨fun g _ h => h, ?_⟩
          refine n_1 26 s (by kernel_rfl) rfl ⟨_, _, _, rfl, rfl, rfl, rfl⟩ (l_quiet s rfl rfl (y_lenSlice s rfl underlying44) fun a s => ?_); refine ⟨fun g _ h => h, ?_⟩
          refine n_1 27 s (by kernel_rfl) rfl ⟨_, _, _, rfl, rfl, rfl, rfl⟩ (l_quiet s rfl rfl (yl_b (y_eqlN (i := ((r36).length)) (j := 4) s rfl rfl) hs58e) fun a s => ?_); refine ⟨fun g _ h => h, ?_⟩
          refine n_1 28 s (by kernel_rfl) rfl rfl (l_quiet s rfl rfl (y_pick_t s rfl rfl) fun a s => ?_); refine ⟨fun g _ h => h, ?_⟩
          refine n_1 29 s (by kernel_rfl) rfl rfl (l_quiet s rfl rfl (y_move s rfl) fun a s => ?_); refine ⟨fun g _ h => h, ?_⟩
          refine n_1 30 s (by kernel_rfl) rfl ⟨_, _, _, rfl, rfl, rfl, rfl⟩ (l_quiet s rfl rfl (y_move s rfl) fun a s => ?_); refine ⟨fun g _ h => h, ?_⟩
          obtain ⟨p84, hep84, hpp84⟩ := SlR.elemX (s.ft 124 rfl) hx60
          refine n_1 31 s (by kernel_rfl) rfl ⟨_, _, _, rfl, rfl, rfl, rfl⟩ (l_quiet s rfl rfl (y_elem (sz := 1) (i := 0) s rfl rfl underlying44 rfl hep84 rfl (lt_of_get hx60)) fun a s => ?_); refine ⟨fun g _ h => h, ?_⟩
          obtain ⟨hlq85, hmq85, csq85, hdq85, hcq85⟩ := (SlR.again (s.ft 124 rfl) hx60 hep84)
          obtain ⟨rfl, lq851⟩ := hdq85
          refine n_1 32 s (by kernel_rfl) rfl ⟨_, _, _, rfl, rfl, rfl, rfl⟩ (l_quiet s rfl rfl (y_ldp1 s rfl hlq85 hmq85 (hcq85 0 _ rfl) underlying9 rfl) fun a s => ?_); refine ⟨fun g _ h => h, ?_⟩
          refine n_1 33 s (by kernel_rfl) rfl ⟨_, _, _, rfl, rfl, rfl, rfl⟩ (l_quiet s rfl rfl (yl_b (y_seq s rfl rfl) hs62e) fun a s => ?_); refine ⟨fun g _ h => h, ?_⟩
          refine n_1 34 s (by kernel_rfl) rfl rfl (l_quiet s rfl rfl (y_pick_t s rfl rfl) fun a s => ?_); refine ⟨fun g _ h => h, ?_⟩
          refine n_1 35 s (by kernel_rfl) rfl rfl (l_quiet s rfl rfl (y_move s rfl) fun a s => ?_); refine ⟨fun g _ h => h, ?_⟩
          refine n_1 36 s (by kernel_rfl) rfl ⟨_, _, _, rfl, rfl, rfl, rfl⟩ (l_quiet s rfl rfl (y_move s rfl) fun a s => ?_); refine ⟨fun g _ h => h, ?_⟩
          obtain ⟨p86, hep86, hpp86⟩ := SlR.elemX (s.ft 124 rfl) hx64
          refine n_1 37 s (by kernel_rfl) rfl ⟨_, _, _, rfl, rfl, rfl, rfl⟩ (l_quiet s rfl rfl (y_elem (sz := 1) (i := 1) s rfl rfl underlying44 rfl hep86 rfl (lt_of_get hx64)) fun a s => ?_); refine ⟨fun g _ h => h, ?_⟩
          obtain ⟨hlq87, hmq87, csq87, hdq87, hcq87⟩ := (SlR.again (s.ft 124 rfl) hx64 hep86)
          obtain ⟨rfl, lq871⟩ := hdq87
          refine n_1 38 s (by kernel_rfl) rfl ⟨_, _, _, rfl, rfl, rfl, rfl⟩ (l_quiet s rfl rfl (y_ldp1 s rfl hlq87 hmq87 (hcq87 0 _ rfl) underlying9 rfl) fun a s => ?_); refine ⟨fun g _ h => h, ?_⟩
          refine n_1 39 s (by kernel_rfl) rfl ⟨_, _, _, rfl, rfl, rfl, rfl⟩ (l_quiet s rfl rfl (yl_b (y_seq s rfl rfl) hs66e) fun a s => ?_); refine ⟨fun g _ h => h, ?_⟩
          refine n_1 40 s (by kernel_rfl) rfl rfl (l_quiet s rfl rfl (y_pick_t s rfl rfl) fun a s => ?_); refine ⟨fun g _ h => h, ?_⟩
          refine n_1 41 s (by kernel_rfl) rfl rfl (l_quiet s rfl rfl (y_move s rfl) fun a s => ?_); refine ⟨fun g _ h => h, ?_⟩
          refine n_1 42 s (by kernel_rfl) rfl ⟨_, _, _, rfl, rfl, rfl, rfl⟩ (l_quiet s rfl rfl (y_move s rfl) fun a s => ?_); refine ⟨fun g _ h => h, ?_⟩
          obtain ⟨p88, hep88, hpp88⟩ := SlR.elemX (s.ft 124 rfl) hx68
          refine n_1 43 s (by kernel_rfl) rfl ⟨_, _, _, rfl, rfl, rfl, rfl⟩ (l_quiet s rfl rfl (y_elem (sz := 1) (i := 3) s rfl rfl underlying44 rfl hep88 rfl (lt_of_get hx68)) fun a s => ?_); refine ⟨fun g _ h => h, ?_⟩
          obtain ⟨hlq89, hmq89, csq89, hdq89, hcq89⟩ := (SlR.again (s.ft 124 rfl) hx68 hep88)
          obtain ⟨rfl, lq891⟩ := hdq89
          refine n_1 44 s (by kernel_rfl) rfl ⟨_, _, _, rfl, rfl, rfl, rfl⟩ (l_quiet s rfl rfl (y_ldp1 s rfl hlq89 hmq89 (hcq89 0 _ rfl) underlying9 rfl) fun a s => ?_); refine ⟨fun g _ h => h, ?_⟩
          refine n_1 45 s (by kernel_rfl) rfl ⟨_, _, _, rfl, rfl, rfl, rfl⟩ (l_quiet s rfl rfl (yl_b (y_seq s rfl rfl) hs70e) fun a s => ?_); refine ⟨fun g _ h => h, ?_⟩
          refine n_1 46 s (by kernel_rfl) rfl rfl (l_quiet s rfl rfl (y_pick_t s rfl rfl) fun a s => ?_); refine ⟨fun g _ h => h, ?_⟩
          refine n_1 47 s (by kernel_rfl) rfl rfl (l_quiet s rfl rfl (y_move s rfl) fun a s => ?_); refine ⟨fun g _ h => h, ?_⟩
          refine n_1 48 s (by kernel_rfl) rfl ⟨_, _, _, rfl, rfl, rfl, rfl⟩ (l_quiet s rfl rfl (y_build (parts := [(0, .const (vT ([110, 112])))]) (ps := [(0, vT ([110, 112]))]) (cells := #[vT ([110, 112]), vI 0]) s rfl (by kernel_rfl)) fun a s => ?_); refine ⟨fun g _ h => h, ?_⟩
          refine n_1 49 s (by kernel_rfl) rfl ⟨_, _, _, rfl, rfl, rfl, rfl⟩ (l_buildDense (sz := 2) s 1549 rfl rfl rfl underlying22 rfl rfl rfl rfl rfl rfl rfl fun b90 a w hbb90 hK s => ?_)
          have hNb90 := NewA.lit hZ hbb90
          clear hbb90
          replace hE := hE.grow hK; replace hZ := Nat.le_trans hZ hK.size; refine ⟨fun g _ h => h.grow hK, ?_⟩; clear hK
          replace s := s.add 133 (rdF RWeight (cellsOfL [.agg #[vT ([110, 112]), vI 0]]) ([(Weight.mk [110, 112] 0)])) (RdAll.cons (by exact (RWeight.mk' (x := (Weight.mk [110, 112] 0)) (by first | omega | (rw [List.length_append]; omega) | (simp only [List.length_append]; omega) | (simp only [List.length_append, List.length_take, List.length_drop, List.length_cons, List.length_nil]; omega) | exact smin_len (by omega) (by omega)))) (RdAll.nil _ _ _))
          replace s := s.freeze (R := RWeight) (kk := 1549) (L' := [(1208, Ob.box b21 [sl Au20a1 (r14.1.Weights) cu20a1] 24), (1304, Ob.box b35 [vI 2, vT ([110, 112]), vI 0, vI 2, .slice (some ⟨b34, 0, none⟩) (2) (2)] 42)]) 134 rfl rfl (s.ft 133 rfl) ⟨rfl, rfl, trivial⟩ rfl
          refine n_1 50 s (by kernel_rfl) rfl ⟨_, _, _, rfl, rfl, rfl, rfl⟩ (l_quiet s rfl rfl (y_build (parts := [(0, .tmp 72)]) (ps := [(0, .slice (some ⟨b90, 0, none⟩) (1) (1))]) (cells := #[.slice (some ⟨b90, 0, none⟩) (1) (1)]) s rfl (by kernel_rfl)) fun a s => ?_); refine ⟨fun g _ h => h, ?_⟩
          refine n_1 51 s (by kernel_rfl) rfl ⟨_, _, _, rfl, rfl, rfl, rfl⟩ (l_call (cap := []) s rfl func16 rfl (by kernel_rfl) rfl rfl (c_model_Check n _ _ s.lt (Model.mk [(Weight.mk [110, 112] 0)]) (some ⟨b90, 0, none⟩) (1) (s.ft 134 rfl) r72 hr72) fun v91 a w hK hp s => ?_)
          replace hE := hE.grow hK; replace hZ := Nat.le_trans hZ hK.size; refine ⟨fun g _ h => h.grow hK, ?_⟩; clear hK
          obtain rfl := hp
          refine n_1 52 s (by kernel_rfl) rfl ⟨_, _, _, rfl, rfl, rfl, rfl⟩ (l_quiet s rfl rfl (y_eql s rfl rfl) fun a s => ?_); refine ⟨fun g _ h => h, ?_⟩
          refine n_1 53 s (by kernel_rfl) rfl rfl (l_quiet s rfl rfl (y_pick_t s rfl rfl) fun a s => ?_); refine ⟨fun g _ h => h, ?_⟩
          refine n_1 54 s (by kernel_rfl) rfl rfl (l_quiet s rfl rfl (y_assign s rfl) fun a s => ?_); refine ⟨fun g _ h => h, ?_⟩
          refine n_end (by kernel_rfl) ?_; clear hR hZ hE
          apply pN
          apply wp_ret
          obtain rfl := Option.some.inj hg
          refine fin1 (fn := Tryz.f6) s rfl (r_tmp s rfl) ?_
          exact rfl
         ·obtain ⟨hlq93, hmq93, csq93, hdq93, hcq93⟩ := (SlR.again (s.ft 111 rfl) hx52 hep80)
          obtain ⟨Aq935, cq935, rfl, lq932, hq935⟩ := RDeriv.open hdq93
          replace s := s.ns 135 hq935
          refine l_quiet s rfl rfl (y_ldp s rfl hlq93 hmq93 (by simpa using hcq93) underlying42 rfl rfl) fun a s => ?_; refine ⟨fun g _ h => h, ?_⟩
          refine n_1 17 s (by kernel_rfl) rfl ⟨_, _, _, rfl, rfl, rfl, rfl⟩ (l_quiet s rfl rfl (y_loadAll (kk := 1208) s rfl rfl underlying24 rfl rfl) fun a s => ?_); refine ⟨fun g _ h => h, ?_⟩
          refine n_1 21 s (by kernel_rfl) rfl ⟨_, _, _, rfl, rfl, rfl, rfl⟩ (l_call (cap := []) s rfl func15 rfl (by kernel_rfl) rfl rfl (c_model_Score n _ _ s.lt r14.1 (Au20a1) (cu20a1) (s.ft 114 rfl) x52 (Aq935) (cq935) (by omega) (s.ft 135 rfl) r54 hr54) fun v94 a w hK hp s => ?_)
          replace hE := hE.grow hK; replace hZ := Nat.le_trans hZ hK.size; refine ⟨fun g _ h => h.grow hK, ?_⟩; clear hK
          obtain rfl := hp
          refine n_1 22 s (by kernel_rfl) rfl ⟨_, _, _, rfl, rfl, rfl, rfl⟩ (l_quiet s rfl rfl (yl_b (y_eql s rfl rfl) hs57e) fun a s => ?_); refine ⟨fun g _ h => h, ?_⟩
          refine n_1 23 s (by kernel_rfl) rfl rfl (l_quiet s rfl rfl (y_pick_t s rfl rfl) fun a s => ?_); refine ⟨fun g _ h => h, ?_⟩
          refine n_1 24 s (by kernel_rfl) rfl rfl (l_quiet s rfl rfl (y_move s rfl) fun a s => ?_); refine ⟨fun g _ h => h, ?_⟩
          refine n_1 25 s (by kernel_rfl) rfl ⟨_, _, _, rfl, rfl, rfl, rfl⟩ (l_quiet s rfl rfl (y_move s rfl) fun a s => ?_); refine ⟨fun g _ h => h, ?_⟩
          refine n_1 26 s (by kernel_rfl) rfl ⟨_, _, _, rfl, rfl, rfl, rfl⟩ (l_quiet s rfl rfl (y_lenSlice s rfl underlying44) fun a s => ?_); refine ⟨fun g _ h => h, ?_⟩
          refine n_1 27 s (by kernel_rfl) rfl ⟨_, _, _, rfl, rfl, rfl, rfl⟩ (l_quiet s rfl rfl (yl_b (y_eqlN (i := ((r36).length)) (j := 4) s rfl rfl) hs58e) fun a s => ?_); refine ⟨fun g _ h => h, ?_⟩
          refine n_1 28 s (by kernel_rfl) rfl rfl (l_quiet s rfl rfl (y_pick_t s rfl rfl) fun a s => ?_); refine ⟨fun g _ h => h, ?_⟩
          refine n_1 29 s (by kernel_rfl) rfl rfl (l_quiet s rfl rfl (y_move s rfl) fun a s => ?_); refine ⟨fun g _ h => h, ?_⟩
          refine n_1 30 s (by kernel_rfl) rfl ⟨_, _, _, rfl, rfl, rfl, rfl⟩ (l_quiet s rfl rfl (y_move s rfl) fun a s => ?_); refine ⟨fun g _ h => h, ?_⟩
          obtain ⟨p96, hep96, hpp96⟩ := SlR.elemX (s.ft 124 rfl) hx60
          refine n_1 31 s (by kernel_rfl) rfl ⟨_, _, _, rfl, rfl, rfl, rfl⟩ (l_quiet s rfl rfl (y_elem (sz := 1) (i := 0) s rfl rfl underlying44 rfl hep96 rfl (lt_of_get hx60)) fun a s => ?_); refine ⟨fun g _ h => h, ?_⟩
          obtain ⟨hlq97, hmq97, csq97, hdq97, hcq97⟩ := (SlR.again (s.ft 124 rfl) hx60 hep96)
          obtain ⟨rfl, lq971⟩ := hdq97
          refine n_1 32 s (by kernel_rfl) rfl ⟨_, _, _, rfl, rfl, rfl, rfl⟩ (l_quiet s rfl rfl (y_ldp1 s rfl hlq97 hmq97 (hcq97 0 _ rfl) underlying9 rfl) fun a s => ?_); refine ⟨fun g _ h => h, ?_⟩
          refine n_1 33 s (by kernel_rfl) rfl ⟨_, _, _, rfl, rfl, rfl, rfl⟩ (l_quiet s rfl rfl (yl_b (y_seq s rfl rfl) hs62e) fun a s => ?_); refine ⟨fun g _ h => h, ?_⟩
          refine n_1 34 s (by kernel_rfl) rfl rfl (l_quiet s rfl rfl (y_pick_t s rfl rfl) fun a s => ?_); refine ⟨fun g _ h => h, ?_⟩
          refine n_1 35 s (by kernel_rfl) rfl rfl (l_quiet s rfl rfl (y_move s rfl) fun a s => ?_); refine ⟨fun g _ h => h, ?_⟩
          refine n_1 36 s (by kernel_rfl) rfl ⟨_, _, _, rfl, rfl, rfl, rfl⟩ (l_quiet s rfl rfl (y_move s rfl) fun a s => ?_); refine ⟨fun g _ h => h, ?_⟩
          obtain ⟨p98, hep98, hpp98⟩ := SlR.elemX (s.ft 124 rfl) hx64
          refine n_1 37 s (by kernel_rfl) rfl ⟨_, _, _, rfl, rfl, rfl, rfl⟩ (l_quiet s rfl rfl (y_elem (sz := 1) (i := 1) s rfl rfl underlying44 rfl hep98 rfl (lt_of_get hx64)) fun a s => ?_); refine ⟨fun g _ h => h, ?_⟩
          obtain ⟨hlq99, hmq99, csq99, hdq99, hcq99⟩ := (SlR.again (s.ft 124 rfl) hx64 hep98)
          obtain ⟨rfl, lq991⟩ := hdq99
          refine n_1 38 s (by kernel_rfl) rfl ⟨_, _, _, rfl, rfl, rfl, rfl⟩ (l_quiet s rfl rfl (y_ldp1 s rfl hlq99 hmq99 (hcq99 0 _ rfl) underlying9 rfl) fun a s => ?_); refine ⟨fun g _ h => h, ?_⟩
          refine n_1 39 s (by kernel_rfl) rfl ⟨_, _, _, rfl, rfl, rfl, rfl⟩ (l_quiet s rfl rfl (yl_b (y_seq s rfl rfl) hs66e) fun a s => ?_); refine ⟨fun g _ h => h, ?_⟩
          refine n_1 40 s (by kernel_rfl) rfl rfl (l_quiet s rfl rfl (y_pick_t s rfl rfl) fun a s => ?_); refine ⟨fun g _ h => h, ?_⟩
          refine n_1 41 s (by kernel_rfl) rfl rfl (l_quiet s rfl rfl (y_move s rfl) fun a s => ?_); refine ⟨fun g _ h => h, ?_⟩
          refine n_1 42 s (by kernel_rfl) rfl ⟨_, _, _, rfl, rfl, rfl, rfl⟩ (l_quiet s rfl rfl (y_move s rfl) fun a s => ?_); refine ⟨fun g _ h => h, ?_⟩
          obtain ⟨p100, hep100, hpp100⟩ := SlR.elemX (s.ft 124 rfl) hx68
          refine n_1 43 s (by kernel_rfl) rfl ⟨_, _, _, rfl, rfl, rfl, rfl⟩ (l_quiet s rfl rfl (y_elem (sz := 1) (i := 3) s rfl rfl underlying44 rfl hep100 rfl (lt_of_get hx68)) fun a s => ?_); refine ⟨fun g _ h => h, ?_⟩
          obtain ⟨hlq101, hmq101, csq101, hdq101, hcq101⟩ := (SlR.again (s.ft 124 rfl) hx68 hep100)
          obtain ⟨rfl, lq1011⟩ := hdq101
          refine n_1 44 s (by kernel_rfl) rfl ⟨_, _, _, rfl, rfl, rfl, rfl⟩ (l_quiet s rfl rfl (y_ldp1 s rfl hlq101 hmq101 (hcq101 0 _ rfl) underlying9 rfl) fun a s => ?_); refine ⟨fun g _ h => h, ?_⟩
          refine n_1 45 s (by kernel_rfl) rfl ⟨_, _, _, rfl, rfl, rfl, rfl⟩ (l_quiet s rfl rfl (yl_b (y_seq s rfl rfl) hs70e) fun a s => ?_); refine ⟨fun g _ h => h, ?_⟩
          refine n_1 46 s (by kernel_rfl) rfl rfl (l_quiet s rfl rfl (y_pick_t s rfl rfl) fun a s => ?_); refine ⟨fun g _ h => h, ?_⟩
          refine n_1 47 s (by kernel_rfl) rfl rfl (l_quiet s rfl rfl (y_move s rfl) fun a s => ?_); refine ⟨fun g _ h => h, ?_⟩
          refine n_1 48 s (by kernel_rfl) rfl ⟨_, _, _, rfl, rfl, rfl, rfl⟩ (l_quiet s rfl rfl (y_build (parts := [(0, .const (vT ([110, 112])))]) (ps := [(0, vT ([110, 112]))]) (cells := #[vT ([110, 112]), vI 0]) s rfl (by kernel_rfl)) fun a s => ?_); refine ⟨fun g _ h => h, ?_⟩
          refine n_1 49 s (by kernel_rfl) rfl ⟨_, _, _, rfl, rfl, rfl, rfl⟩ (l_buildDense (sz := 2) s 1549 rfl rfl rfl underlying22 rfl rfl rfl rfl rfl rfl rfl fun b102 a w hbb102 hK s => ?_)
          have hNb102 := NewA.lit hZ hbb102
          clear hbb102
          replace hE := hE.grow hK; replace hZ := Nat.le_trans hZ hK.size; refine ⟨fun g _ h => h.grow hK, ?_⟩; clear hK
          replace s := s.add 136 (rdF RWeight (cellsOfL [.agg #[vT ([110, 112]), vI 0]]) ([(Weight.mk [110, 112] 0)])) (RdAll.cons (by exact (RWeight.mk' (x := (Weight.mk [110, 112] 0)) (by first | omega | (rw [List.length_append]; omega) | (simp only [List.length_append]; omega) | (simp only [List.length_append, List.length_take, List.length_drop, List.length_cons, List.length_nil]; omega) | exact smin_len (by omega) (by omega)))) (RdAll.nil _ _ _))
          replace s := s.freeze (R := RWeight) (kk := 1549) (L' := [(1208, Ob.box b21 [sl Au20a1 (r14.1.Weights) cu20a1] 24), (1304, Ob.box b35 [vI 2, vT ([110, 112]), vI 0, vI 2, .slice (some ⟨b34, 0, none⟩) (2) (2)] 42)]) 137 rfl rfl (s.ft 136 rfl) ⟨rfl, rfl, trivial⟩ rfl
          refine n_1 50 s (by kernel_rfl) rfl ⟨_, _, _, rfl, rfl, rfl, rfl⟩ (l_quiet s rfl rfl (y_build (parts := [(0, .tmp 72)]) (ps := [(0, .slice (some ⟨b102, 0, none⟩) (1) (1))]) (cells := #[.slice (some ⟨b102, 0, none⟩) (1) (1)]) s rfl (by kernel_rfl)) fun a s => ?_); refine ⟨fun g _ h => h, ?_⟩
          refine n_1 51 s (by kernel_rfl) rfl ⟨_, _, _, rfl, rfl, rfl, rfl⟩ (l_call (cap := []) s rfl func16 rfl (by kernel_rfl) rfl rfl (c_model_Check n _ _ s.lt (Model.mk [(Weight.mk [110, 112] 0)]) (some ⟨b102, 0, none⟩) (1) (s.ft 137 rfl) r72 hr72) fun v103 a w hK hp s => ?_)
          replace hE := hE.grow hK; replace hZ := Nat.le_trans hZ hK.size; refine ⟨fun g _ h => h.grow hK, ?_⟩; clear hK
          obtain rfl := hp
          refine n_1 52 s (by kernel_rfl) rfl ⟨_, _, _, rfl, rfl, rfl, rfl⟩ (l_quiet s rfl rfl (y_eql s rfl rfl) fun a s => ?_); refine ⟨fun g _ h => h, ?_⟩
          refine n_1 53 s (by kernel_rfl) rfl rfl (l_quiet s rfl rfl (y_pick_t s rfl rfl) fun a s => ?_); refine ⟨fun g _ h => h, ?_⟩
          refine n_1 54 s (by kernel_rfl) rfl rfl (l_quiet s rfl rfl (y_assign s rfl) fun a s => ?_); refine ⟨fun g _ h => h, ?_⟩
          refine n_end (by kernel_rfl) ?_; clear hR hZ hE
          apply pN
          apply wp_ret
          obtain rfl := Option.some.inj hg
          refine fin1 (fn := Tryz.f6) s rfl (r_tmp s rfl) ?_
          exact rfl
        have hs70e := decide_eq_false hs70
        replace hg := br_f hg hs70
        refine d_steps s [] rfl ?_; clear s; intro wr hZ s; have hR := s.wd; have hE := Ext.init hR 0
        refine n_q 0 0 s hR rfl (by kernel_rfl) (by kernel_rfl) (by kernel_rfl) rfl rfl rfl (y_move s rfl) fun a s => ?_
        refine n_q 1 0 s hR rfl (by kernel_rfl) (by kernel_rfl) (by kernel_rfl) rfl rfl rfl (yl_b (y_eql s rfl rfl) hs41e) fun a s => ?_
        refine n_q 2 0 s hR rfl (by kernel_rfl) (by kernel_rfl) (by kernel_rfl) rfl rfl rfl (y_move s rfl) fun a s => ?_
        refine n_q 3 1208 s hR rfl (by kernel_rfl) (by kernel_rfl) (by kernel_rfl) rfl ⟨_, _, _, rfl, rfl, rfl, rfl⟩ rfl (y_loadAll (kk := 1208) s rfl rfl underlying24 rfl rfl) fun a s => ?_
        refine n_q 4 0 s hR rfl (by kernel_rfl) (by kernel_rfl) (by kernel_rfl) rfl ⟨_, _, _, rfl, rfl, rfl, rfl⟩ rfl (y_build (parts := [(0, .const (vT ([97]))), (1, .const (vI (-1)))]) (ps := [(0, vT ([97])), (1, vI (-1))]) (cells := #[vT ([97]), vI (-1)]) s rfl (by kernel_rfl)) fun a s => ?_
        refine n_q 5 0 s hR rfl (by kernel_rfl) (by kernel_rfl) (by kernel_rfl) rfl ⟨_, _, _, rfl, rfl, rfl, rfl⟩ rfl (y_build (parts := [(0, .const (vT ([98]))), (1, .const (vI 1))]) (ps := [(0, vT ([98])), (1, vI 1)]) (cells := #[vT ([98]), vI 1]) s rfl (by kernel_rfl)) fun a s => ?_
        refine n_1 6 s (by kernel_rfl) rfl ⟨_, _, _, rfl, rfl, rfl, rfl⟩ (l_buildDense (sz := 2) s 1506 rfl rfl rfl underlying22 rfl rfl rfl rfl rfl rfl rfl fun b105 a w hbb105 hK s => ?_)
        have hNb105 := NewA.lit hZ hbb105
        clear hbb105
        replace hE := hE.grow hK; replace hZ := Nat.le_trans hZ hK.size; refine ⟨fun g _ h => h.grow hK, ?_⟩; clear hK
        replace s := s.add 138 (rdF RWeight (cellsOfL [.agg #[vT ([97]), vI (-1)], .agg #[vT ([98]), vI 1]]) ([(Weight.mk [97] (-1)), (Weight.mk [98] 1)])) (RdAll.cons (by exact (RWeight.mk' (x := (Weight.mk [97] (-1))) (by first | omega | (rw [List.length_append]; omega) | (simp only [List.length_append]; omega) | (simp only [List.length_append, List.length_take, List.length_drop, List.length_cons, List.length_nil]; omega) | exact smin_len (by omega) (by omega)))) (RdAll.cons (by exact (RWeight.mk' (x := (Weight.mk [98] 1)) (by first | omega | (rw [List.length_append]; omega) | (simp only [List.length_append]; omega) | (simp only [List.length_append, List.length_take, List.length_drop, List.length_cons, List.length_nil]; omega) | exact smin_len (by omega) (by omega)))) (RdAll.nil _ _ _)))
        replace s := s.freeze (R := RWeight) (kk := 1506) (L' := [(1208, Ob.box b21 [sl Au20a1 (r14.1.Weights) cu20a1] 24), (1304, Ob.box b35 [vI 2, vT ([110, 112]), vI 0, vI 2, .slice (some ⟨b34, 0, none⟩) (2) (2)] 42)]) 139 rfl rfl (s.ft 138 rfl) ⟨rfl, rfl, trivial⟩ rfl
        refine n_1 7 s (by kernel_rfl) rfl ⟨_, _, _, rfl, rfl, rfl, rfl⟩ (l_quiet s rfl rfl (y_build (parts := [(0, .tmp 29)]) (ps := [(0, .slice (some ⟨b105, 0, none⟩) (2) (2))]) (cells := #[.slice (some ⟨b105, 0, none⟩) (2) (2)]) s rfl (by kernel_rfl)) fun a s => ?_); refine ⟨fun g _ h => h, ?_⟩
        refine n_1 8 s (by kernel_rfl) rfl ⟨_, _, _, rfl, rfl, rfl, rfl⟩ (l_call (cap := []) s rfl func9 rfl (by kernel_rfl) rfl rfl (c_r37_Same n _ _ s.lt r14.1 (Au20a1) (cu20a1) (s.ft 114 rfl) (Model.mk [(Weight.mk [97] (-1)), (Weight.mk [98] 1)]) (some ⟨b105, 0, none⟩) (2) (s.ft 139 rfl) r43 hr43) fun v106 a w hK hp s => ?_)
        replace hE := hE.grow hK; replace hZ := Nat.le_trans hZ hK.size; refine ⟨fun g _ h => h.grow hK, ?_⟩; clear hK
        obtain rfl := hp.trans (congrArg Value.bool hs46)
        refine n_1 9 s (by kernel_rfl) rfl rfl (l_quiet s rfl rfl (y_pick_t s rfl rfl) fun a s => ?_); refine ⟨fun g _ h => h, ?_⟩
        refine n_1 10 s (by kernel_rfl) rfl rfl (l_quiet s rfl rfl (y_move s rfl) fun a s => ?_); refine ⟨fun g _ h => h, ?_⟩
        refine n_ql 12 s hE rfl (by kernel_rfl) (by kernel_rfl) (by kernel_rfl) rfl ⟨_, _, _, rfl, rfl, rfl, rfl⟩ rfl (fun w' s => y_move s rfl) fun a s => ?_
        refine n_1 11 s (by kernel_rfl) rfl ⟨_, _, _, rfl, rfl, rfl, rfl⟩ (l_quiet s rfl rfl (y_loadAll (kk := 1208) s rfl rfl underlying24 rfl rfl) fun a s => ?_); refine ⟨fun g _ h => h, ?_⟩
        refine n_1 13 s (by kernel_rfl) rfl ⟨_, _, _, rfl, rfl, rfl, rfl⟩ (l_call (cap := []) s rfl func14 rfl (by kernel_rfl) rfl rfl (c_model_Best n _ _ s.lt r14.1 (Au20a1) (cu20a1) (s.ft 114 rfl) [r1, r4] (some ⟨b12, 0, none⟩) (2) (s.ft 111 rfl) r47 hr47) fun v108 a w hK hp s => ?_)
        replace hE := hE.grow hK; replace hZ := Nat.le_trans hZ hK.size; refine ⟨fun g _ h => h.grow hK, ?_⟩; clear hK
        obtain rfl := hp
        refine n_1 14 s (by kernel_rfl) rfl ⟨_, _, _, rfl, rfl, rfl, rfl⟩ (l_quiet s rfl rfl (yl_b (y_eql s rfl rfl) hs50e) fun a s => ?_); refine ⟨fun g _ h => h, ?_⟩
        refine n_1 15 s (by kernel_rfl) rfl rfl (l_quiet s rfl rfl (y_pick_t s rfl rfl) fun a s => ?_); refine ⟨fun g _ h => h, ?_⟩
        refine n_1 16 s (by kernel_rfl) rfl rfl (l_quiet s rfl rfl (y_move s rfl) fun a s => ?_); refine ⟨fun g _ h => h, ?_⟩
        refine n_ql 18 s hE rfl (by kernel_rfl) (by kernel_rfl) (by kernel_rfl) rfl ⟨_, _, _, rfl, rfl, rfl, rfl⟩ rfl (fun w' s => y_move s rfl) fun a s => ?_
        obtain ⟨p110, hep110, hpp110⟩ := SlR.elemX (s.ft 111 rfl) hx52
        refine n_ql 19 s hE rfl (by kernel_rfl) (by kernel_rfl) (by kernel_rfl) rfl ⟨_, _, _, rfl, rfl, rfl, rfl⟩ rfl (fun w' s => y_elem (sz := 5) (i := 1) s rfl rfl underlying35 rfl hep110 rfl (lt_of_get hx52)) fun a s => ?_
        refine n_2 17 20 s (by kernel_rfl) rfl ⟨_, _, _, rfl, rfl, rfl, rfl⟩ rfl ⟨_, _, _, rfl, rfl, rfl, rfl⟩ ?_ ?_
        ·refine l_quiet s rfl rfl (y_loadAll (kk := 1208) s rfl rfl underlying24 rfl rfl) fun a s => ?_; refine ⟨fun g _ h => h, ?_⟩
         obtain ⟨hlq111, hmq111, csq111, hdq111, hcq111⟩ := (SlR.again (s.ft 111 rfl) hx52 hep110)
         obtain ⟨Aq1115, cq1115, rfl, lq1112, hq1115⟩ := RDeriv.open hdq111
         replace s := s.ns 140 hq1115
         refine n_1 20 s (by kernel_rfl) rfl ⟨_, _, _, rfl, rfl, rfl, rfl⟩ (l_quiet s rfl rfl (y_ldp s rfl hlq111 hmq111 (by simpa using hcq111) underlying42 rfl rfl) fun a s => ?_); refine ⟨fun g _ h => h, ?_⟩
         refine n_1 21 s (by kernel_rfl) rfl ⟨_, _, _, rfl, rfl, rfl, rfl⟩ (l_call (cap := []) s rfl func15 rfl (by kernel_rfl) rfl rfl (c_model_Score n _ _ s.lt r14.1 (Au20a1) (cu20a1) (s.ft 114 rfl) x52 (Aq1115) (cq1115) (by omega) (s.ft 140 rfl) r54 hr54) fun v112 a w hK hp s => ?_)
         replace hE := hE.grow hK; replace hZ := Nat.le_trans hZ hK.size; refine ⟨fun g _ h => h.grow hK, ?_⟩; clear hK
         obtain rfl := hp
         refine n_1 22 s (by kernel_rfl) rfl ⟨_, _, _, rfl, rfl, rfl, rfl⟩ (l_quiet s rfl rfl (yl_b (y_eql s rfl rfl) hs57e) fun a s => ?_); refine ⟨fun g _ h => h, ?_⟩
         refine n_1 23 s (by kernel_rfl) rfl rfl (l_quiet s rfl rfl (y_pick_t s rfl rfl) fun a s => ?_); refine ⟨fun g _ h => h, ?_⟩
         refine n_1 24 s (by kernel_rfl) rfl rfl (l_quiet s rfl rfl (y_move s rfl) fun a s => ?_); refine ⟨fun g _ h => h, ?_⟩
         refine n_1 25 s (by kernel_rfl) rfl ⟨_, _, _, rfl, rfl, rfl, rfl⟩ (l_quiet s rfl rfl (y_move s rfl) fun a s => ?_); refine ⟨fun g _ h => h, ?_⟩
         refine n_1 26 s (by kernel_rfl) rfl ⟨_, _, _, rfl, rfl, rfl, rfl⟩ (l_quiet s rfl rfl (y_lenSlice s rfl underlying44) fun a s => ?_); refine ⟨fun g _ h => h, ?_⟩
         refine n_1 27 s (by kernel_rfl) rfl ⟨_, _, _, rfl, rfl, rfl, rfl⟩ (l_quiet s rfl rfl (yl_b (y_eqlN (i := ((r36).length)) (j := 4) s rfl rfl) hs58e) fun a s => ?_); refine ⟨fun g _ h => h, ?_⟩
         refine n_1 28 s (by kernel_rfl) rfl rfl (l_quiet s rfl rfl (y_pick_t s rfl rfl) fun a s => ?_); refine ⟨fun g _ h => h, ?_⟩
         refine n_1 29 s (by kernel_rfl) rfl rfl (l_quiet s rfl rfl (y_move s rfl) fun a s => ?_); refine ⟨fun g _ h => h, ?_⟩
         refine n_1 30 s (by kernel_rfl) rfl ⟨_, _, _, rfl, rfl, rfl, rfl⟩ (l_quiet s rfl rfl (y_move s rfl) fun a s => ?_); refine ⟨fun g _ h => h, ?_⟩
         obtain ⟨p114, hep114, hpp114⟩ := SlR.elemX (s.ft 124 rfl) hx60
         refine n_1 31 s (by kernel_rfl) rfl ⟨_, _, _, rfl, rfl, rfl, rfl⟩ (l_quiet s rfl rfl (y_elem (sz := 1) (i := 0) s rfl rfl underlying44 rfl hep114 rfl (lt_of_get hx60)) fun a s => ?_); refine ⟨fun g _ h => h, ?_⟩
         obtain ⟨hlq115, hmq115, csq115, hdq115, hcq115⟩ := (SlR.again (s.ft 124 rfl) hx60 hep114)
         obtain ⟨rfl, lq1151⟩ := hdq115
         refine n_1 32 s (by kernel_rfl) rfl ⟨_, _, _, rfl, rfl, rfl, rfl⟩ (l_quiet s rfl rfl (y_ldp1 s rfl hlq115 hmq115 (hcq115 0 _ rfl) underlying9 rfl) fun a s => ?_); refine ⟨fun g _ h => h, ?_⟩
         refine n_1 33 s (by kernel_rfl) rfl ⟨_, _, _, rfl, rfl, rfl, rfl⟩ (l_quiet s rfl rfl (yl_b (y_seq s rfl rfl) hs62e) fun a s => ?_); refine ⟨fun g _ h => h, ?_⟩
         refine n_1 34 s (by kernel_rfl) rfl rfl (l_quiet s rfl rfl (y_pick_t s rfl rfl) fun a s => ?_); refine ⟨fun g _ h => h, ?_⟩
         refine n_1 35 s (by kernel_rfl) rfl rfl (l_quiet s rfl rfl (y_move s rfl) fun a s => ?_); refine ⟨fun g _ h => h, ?_⟩
         refine n_1 36 s (by kernel_rfl) rfl ⟨_, _, _, rfl, rfl, rfl, rfl⟩ (l_quiet s rfl rfl (y_move s rfl) fun a s => ?_); refine ⟨fun g _ h => h, ?_⟩
         obtain ⟨p116, hep116, hpp116⟩ := SlR.elemX (s.ft 124 rfl) hx64
         refine n_1 37 s (by kernel_rfl) rfl ⟨_, _, _, rfl, rfl, rfl, rfl⟩ (l_quiet s rfl rfl (y_elem (sz := 1) (i := 1) s rfl rfl underlying44 rfl hep116 rfl (lt_of_get hx64)) fun a s => ?_); refine ⟨fun g _ h => h, ?_⟩
         obtain ⟨hlq117, hmq117, csq117, hdq117, hcq117⟩ := (SlR.again (s.ft 124 rfl) hx64 hep116)
         obtain ⟨rfl, lq1171⟩ := hdq117
         refine n_1 38 s (by kernel_rfl) rfl ⟨_, _, _, rfl, rfl, rfl, rfl⟩ (l_quiet s rfl rfl (y_ldp1 s rfl hlq117 hmq117 (hcq117 0 _ rfl) underlying9 rfl) fun a s => ?_); refine ⟨fun g _ h => h, ?_⟩
         refine n_1 39 s (by kernel_rfl) rfl ⟨_, _, _, rfl, rfl, rfl, rfl⟩ (l_quiet s rfl rfl (yl_b (y_seq s rfl rfl) hs66e) fun a s => ?_); refine ⟨fun g _ h => h, ?_⟩
         refine n_1 40 s (by kernel_rfl) rfl rfl (l_quiet s rfl rfl (y_pick_t s rfl rfl) fun a s => ?_); refine ⟨fun g _ h => h, ?_⟩
         refine n_1 41 s (by kernel_rfl) rfl rfl (l_quiet s rfl rfl (y_move s rfl) fun a s => ?_); refine ⟨fun g _ h => h, ?_⟩
         refine n_1 42 s (by kernel_rfl) rfl ⟨_, _, _, rfl, rfl, rfl, rfl⟩ (l_quiet s rfl rfl (y_move s rfl) fun a s => ?_); refine ⟨fun g _ h => h, ?_⟩
         obtain ⟨p118, hep118, hpp118⟩ := SlR.elemX (s.ft 124 rfl) hx68
         refine n_1 43 s (by kernel_rfl) rfl ⟨_, _, _, rfl, rfl, rfl, rfl⟩ (l_quiet s rfl rfl (y_elem (sz := 1) (i := 3) s rfl rfl underlying44 rfl hep118 rfl (lt_of_get hx68)) fun a s => ?_); refine ⟨fun g _ h => h, ?_⟩
         obtain ⟨hlq119, hmq119, csq119, hdq119, hcq119⟩ := (SlR.again (s.ft 124 rfl) hx68 hep118)
         obtain ⟨rfl, lq1191⟩ := hdq119
         refine n_1 44 s (by kernel_rfl) rfl ⟨_, _, _, rfl, rfl, rfl, rfl⟩ (l_quiet s rfl rfl (y_ldp1 s rfl hlq119 hmq119 (hcq119 0 _ rfl) underlying9 rfl) fun a s => ?_); refine ⟨fun g _ h => h, ?_⟩
         refine n_1 45 s (by kernel_rfl) rfl ⟨_, _, _, rfl, rfl, rfl, rfl⟩ (l_quiet s rfl rfl (yl_b (y_seq s rfl rfl) hs70e) fun a s => ?_); refine ⟨fun g _ h => h, ?_⟩
         refine n_1 46 s (by kernel_rfl) rfl rfl (l_quiet s rfl rfl (y_pick_t s rfl rfl) fun a s => ?_); refine ⟨fun g _ h => h, ?_⟩
         refine n_1 47 s (by kernel_rfl) rfl rfl (l_quiet s rfl rfl (y_move s rfl) fun a s => ?_); refine ⟨fun g _ h => h, ?_⟩
         refine n_pass 48 s (by kernel_rfl) rfl ⟨_, _, _, rfl, rfl, rfl, rfl⟩ rfl rfl fun a s => ?_
         refine n_pass 49 s (by kernel_rfl) rfl ⟨_, _, _, rfl, rfl, rfl, rfl⟩ rfl rfl fun a s => ?_
         refine n_pass 50 s (by kernel_rfl) rfl ⟨_, _, _, rfl, rfl, rfl, rfl⟩ rfl rfl fun a s => ?_
         refine n_pass 51 s (by kernel_rfl) rfl ⟨_, _, _, rfl, rfl, rfl, rfl⟩ rfl rfl fun a s => ?_
         refine n_pass 52 s (by kernel_rfl) rfl ⟨_, _, _, rfl, rfl, rfl, rfl⟩ rfl rfl fun a s => ?_
         refine n_1 53 s (by kernel_rfl) rfl rfl (l_quiet s rfl rfl (y_pick_f s rfl rfl) fun a s => ?_); refine ⟨fun g _ h => h, ?_⟩
         refine n_1 54 s (by kernel_rfl) rfl rfl (l_quiet s rfl rfl (y_assign s rfl) fun a s => ?_); refine ⟨fun g _ h => h, ?_⟩
         refine n_end (by kernel_rfl) ?_; clear hR hZ hE
         apply pN
         apply wp_ret
         obtain rfl := Option.some.inj hg
         refine fin1 (fn := Tryz.f6) s rfl (r_tmp s rfl) ?_
         exact rfl
        ·obtain ⟨hlq120, hmq120, csq120, hdq120, hcq120⟩ := (SlR.again (s.ft 111 rfl) hx52 hep110)
         obtain ⟨Aq1205, cq1205, rfl, lq1202, hq1205⟩ := RDeriv.open hdq120
         replace s := s.ns 141 hq1205
         refine l_quiet s rfl rfl (y_ldp s rfl hlq120 hmq120 (by simpa using hcq120) underlying42 rfl rfl) fun a s => ?_; refine ⟨fun g _ h => h, ?_⟩
         refine n_1 17 s (by kernel_rfl) rfl ⟨_, _, _, rfl, rfl, rfl, rfl⟩ (l_quiet s rfl rfl (y_loadAll (kk := 1208) s rfl rfl underlying24 rfl rfl) fun a s => ?_); refine ⟨fun g _ h => h, ?_⟩
         refine n_1 21 s (by kernel_rfl) rfl ⟨_, _, _, rfl, rfl, rfl, rfl⟩ (l_call (cap := []) s rfl func15 rfl (by kernel_rfl) rfl rfl (c_model_Score n _ _ s.lt r14.1 (Au20a1) (cu20a1) (s.ft 114 rfl) x52 (Aq1205) (cq1205) (by omega) (s.ft 141 rfl) r54 hr54) fun v121 a w hK hp s => ?_)
         replace hE := hE.grow hK; replace hZ := Nat.le_trans hZ hK.size; refine ⟨fun g _ h => h.grow hK, ?_⟩; clear hK
         obtain rfl := hp
         refine n_1 22 s (by kernel_rfl) rfl ⟨_, _, _, rfl, rfl, rfl, rfl⟩ (l_quiet s rfl rfl (yl_b (y_eql s rfl rfl) hs57e) fun a s => ?_); refine ⟨fun g _ h => h, ?_⟩
         refine n_1 23 s (by kernel_rfl) rfl rfl (l_quiet s rfl rfl (y_pick_t s rfl rfl) fun a s => ?_); refine ⟨fun g _ h => h, ?_⟩
         refine n_1 24 s (by kernel_rfl) rfl rfl (l_quiet s rfl rfl (y_move s rfl) fun a s => ?_); refine ⟨fun g _ h => h, ?_⟩
         refine n_1 25 s (by kernel_rfl) rfl ⟨_, _, _, rfl, rfl, rfl, rfl⟩ (l_quiet s rfl rfl (y_move s rfl) fun a s => ?_); refine ⟨fun g _ h => h, ?_⟩
         refine n_1 26 s (by kernel_rfl) rfl ⟨_, _, _, rfl, rfl, rfl, rfl⟩ (l_quiet s rfl rfl (y_lenSlice s rfl underlying44) fun a s => ?_); refine ⟨fun g _ h => h, ?_⟩
         refine n_1 27 s (by kernel_rfl) rfl ⟨_, _, _, rfl, rfl, rfl, rfl⟩ (l_quiet s rfl rfl (yl_b (y_eqlN (i := ((r36).length)) (j := 4) s rfl rfl) hs58e) fun a s => ?_); refine ⟨fun g _ h => h, ?_⟩
         refine n_1 28 s (by kernel_rfl) rfl rfl (l_quiet s rfl rfl (y_pick_t s rfl rfl) fun a s => ?_); refine ⟨fun g _ h => h, ?_⟩
         refine n_1 29 s (by kernel_rfl) rfl rfl (l_quiet s rfl rfl (y_move s rfl) fun a s => ?_); refine ⟨fun g _ h => h, ?_⟩
         refine n_1 30 s (by kernel_rfl) rfl ⟨_, _, _, rfl, rfl, rfl, rfl⟩ (l_quiet s rfl rfl (y_move s rfl) fun a s => ?_); refine ⟨fun g _ h => h, ?_⟩
         obtain ⟨p123, hep123, hpp123⟩ := SlR.elemX (s.ft 124 rfl) hx60
         refine n_1 31 s (by kernel_rfl) rfl ⟨_, _, _, rfl, rfl, rfl, rfl⟩ (l_quiet s rfl rfl (y_elem (sz := 1) (i := 0) s rfl rfl underlying44 rfl hep123 rfl (lt_of_get hx60)) fun a s => ?_); refine ⟨fun g _ h => h, ?_⟩
         obtain ⟨hlq124, hmq124, csq124, hdq124, hcq124⟩ := (SlR.again (s.ft 124 rfl) hx60 hep123)
         obtain ⟨rfl, lq1241⟩ := hdq124
         refine n_1 32 s (by kernel_rfl) rfl ⟨_, _, _, rfl, rfl, rfl, rfl⟩ (l_quiet s rfl rfl (y_ldp1 s rfl hlq124 hmq124 (hcq124 0 _ rfl) underlying9 rfl) fun a s => ?_); refine ⟨fun g _ h => h, ?_⟩
         refine n_1 33 s (by kernel_rfl) rfl ⟨_, _, _, rfl, rfl, rfl, rfl⟩ (l_quiet s rfl rfl (yl_b (y_seq s rfl rfl) hs62e) fun a s => ?_); refine ⟨fun g _ h => h, ?_⟩
         refine n_1 34 s (by kernel_rfl) rfl rfl (l_quiet s rfl rfl (y_pick_t s rfl rfl) fun a s => ?_); refine ⟨fun g _ h => h, ?_⟩
         refine n_1 35 s (by kernel_rfl) rfl rfl (l_quiet s rfl rfl (y_move s rfl) fun a s => ?_); refine ⟨fun g _ h => h, ?_⟩
         refine n_1 36 s (by kernel_rfl) rfl ⟨_, _, _, rfl, rfl, rfl, rfl⟩ (l_quiet s rfl rfl (y_move s rfl) fun a s => ?_); refine ⟨fun g _ h => h, ?_⟩
         obtain ⟨p125, hep125, hpp125⟩ := SlR.elemX (s.ft 124 rfl) hx64
         refine n_1 37 s (by kernel_rfl) rfl ⟨_, _, _, rfl, rfl, rfl, rfl⟩ (l_quiet s rfl rfl (y_elem (sz := 1) (i := 1) s rfl rfl underlying44 rfl hep125 rfl (lt_of_get hx64)) fun a s => ?_); refine ⟨fun g _ h => h, ?_⟩
         obtain ⟨hlq126, hmq126, csq126, hdq126, hcq126⟩ := (SlR.again (s.ft 124 rfl) hx64 hep125)
         obtain ⟨rfl, lq1261⟩ := hdq126
         refine n_1 38 s (by kernel_rfl) rfl ⟨_, _, _, rfl, rfl, rfl, rfl⟩ (l_quiet s rfl rfl (y_ldp1 s rfl hlq126 hmq126 (hcq126 0 _ rfl) underlying9 rfl) fun a s => ?_); refine ⟨fun g _ h => h, ?_⟩
         refine n_1 39 s (by kernel_rfl) rfl ⟨_, _, _, rfl, rfl, rfl, rfl⟩ (l_quiet s rfl rfl (yl_b (y_seq s rfl rfl) hs66e) fun a s => ?_); refine ⟨fun g _ h => h, ?_⟩
         refine n_1 40 s (by kernel_rfl) rfl rfl (l_quiet s rfl rfl (y_pick_t s rfl rfl) fun a s => ?_); refine ⟨fun g _ h => h, ?_⟩
         refine n_1 41 s (by kernel_rfl) rfl rfl (l_quiet s rfl rfl (y_move s rfl) fun a s => ?_); refine ⟨fun g _ h => h, ?_⟩
         refine n_1 42 s (by kernel_rfl) rfl ⟨_, _, _, rfl, rfl, rfl, rfl⟩ (l_quiet s rfl rfl (y_move s rfl) fun a s => ?_); refine ⟨fun g _ h => h, ?_⟩
         obtain ⟨p127, hep127, hpp127⟩ := SlR.elemX (s.ft 124 rfl) hx68
         refine n_1 43 s (by kernel_rfl) rfl ⟨_, _, _, rfl, rfl, rfl, rfl⟩ (l_quiet s rfl rfl (y_elem (sz := 1) (i := 3) s rfl rfl underlying44 rfl hep127 rfl (lt_of_get hx68)) fun a s => ?_); refine ⟨fun g _ h => h, ?_⟩
         obtain ⟨hlq128, hmq128, csq128, hdq128, hcq128⟩ := (SlR.again (s.ft 124 rfl) hx68 hep127)
         obtain ⟨rfl, lq1281⟩ := hdq128
         refine n_1 44 s (by kernel_rfl) rfl ⟨_, _, _, rfl, rfl, rfl, rfl⟩ (l_quiet s rfl rfl (y_ldp1 s rfl hlq128 hmq128 (hcq128 0 _ rfl) underlying9 rfl) fun a s => ?_); refine ⟨fun g _ h => h, ?_⟩
         refine n_1 45 s (by kernel_rfl) rfl ⟨_, _, _, rfl, rfl, rfl, rfl⟩ (l_quiet s rfl rfl (yl_b (y_seq s rfl rfl) hs70e) fun a s => ?_); refine ⟨fun g _ h => h, ?_⟩
         refine n_1 46 s (by kernel_rfl) rfl rfl (l_quiet s rfl rfl (y_pick_t s rfl rfl) fun a s => ?_); refine ⟨fun g _ h => h, ?_⟩
         refine n_1 47 s (by kernel_rfl) rfl rfl (l_quiet s rfl rfl (y_move s rfl) fun a s => ?_); refine ⟨fun g _ h => h, ?_⟩
         refine n_pass 48 s (by kernel_rfl) rfl ⟨_, _, _, rfl, rfl, rfl, rfl⟩ rfl rfl fun a s => ?_
         refine n_pass 49 s (by kernel_rfl) rfl ⟨_, _, _, rfl, rfl, rfl, rfl⟩ rfl rfl fun a s => ?_
         refine n_pass 50 s (by kernel_rfl) rfl ⟨_, _, _, rfl, rfl, rfl, rfl⟩ rfl rfl fun a s => ?_
         refine n_pass 51 s (by kernel_rfl) rfl ⟨_, _, _, rfl, rfl, rfl, rfl⟩ rfl rfl fun a s => ?_
         refine n_pass 52 s (by kernel_rfl) rfl ⟨_, _, _, rfl, rfl, rfl, rfl⟩ rfl rfl fun a s => ?_
         refine n_1 53 s (by kernel_rfl) rfl rfl (l_quiet s rfl rfl (y_pick_f s rfl rfl) fun a s => ?_); refine ⟨fun g _ h => h, ?_⟩
         refine n_1 54 s (by kernel_rfl) rfl rfl (l_quiet s rfl rfl (y_assign s rfl) fun a s => ?_); refine ⟨fun g _ h => h, ?_⟩
         refine n_end (by kernel_rfl) ?_; clear hR hZ hE
         apply pN
         apply wp_ret
         obtain rfl := Option.some.inj hg
         refine fin1 (fn := Tryz.f6) s rfl (r_tmp s rfl) ?_
         exact rfl
       have hs66e := decide_eq_false hs66
       replace hg := br_f hg hs66
       refine d_steps s [] rfl ?_; clear s; intro wr hZ s; have hR := s.wd; have hE := Ext.init hR 0
       refine n_q 0 0 s hR rfl (by kernel_rfl) (by kernel_rfl) (by kernel_rfl) rfl rfl rfl (y_move s rfl) fun a s => ?_
       refine n_q 1 0 s hR rfl (by kernel_rfl) (by kernel_rfl) (by kernel_rfl) rfl rfl rfl (yl_b (y_eql s rfl rfl) hs41e) fun a s => ?_
       refine n_q 2 0 s hR rfl (by kernel_rfl) (by kernel_rfl) (by kernel_rfl) rfl rfl rfl (y_move s rfl) fun a s => ?_
       refine n_q 3 1208 s hR rfl (by kernel_rfl) (by kernel_rfl) (by kernel_rfl) rfl ⟨_, _, _, rfl, rfl, rfl, rfl⟩ rfl (y_loadAll (kk := 1208) s rfl rfl underlying24 rfl rfl) fun a s => ?_
       refine n_q 4 0 s hR rfl (by kernel_rfl) (by kernel_rfl) (by kernel_rfl) rfl ⟨_, _, _, rfl, rfl, rfl, rfl⟩ rfl (y_build (parts := [(0, .const (vT ([97]))), (1, .const (vI (-1)))]) (ps := [(0, vT ([97])), (1, vI (-1))]) (cells := #[vT ([97]), vI (-1)]) s rfl (by kernel_rfl)) fun a s => ?_
       refine n_q 5 0 s hR rfl (by kernel_rfl) (by kernel_rfl) (by kernel_rfl) rfl ⟨_, _, _, rfl, rfl, rfl, rfl⟩ rfl (y_build (parts := [(0, .const (vT ([98]))), (1, .const (vI 1))]) (ps := [(0, vT ([98])), (1, vI 1)]) (cells := #[vT ([98]), vI 1]) s rfl (by kernel_rfl)) fun a s => ?_
       refine n_1 6 s (by kernel_rfl) rfl ⟨_, _, _, rfl, rfl, rfl, rfl⟩ (l_buildDense (sz := 2) s 1506 rfl rfl rfl underlying22 rfl rfl rfl rfl rfl rfl rfl fun b129 a w hbb129 hK s => ?_)
       have hNb129 := NewA.lit hZ hbb129
       clear hbb129
       replace hE := hE.grow hK; replace hZ := Nat.le_trans hZ hK.size; refine ⟨fun g _ h => h.grow hK, ?_⟩; clear hK
       replace s := s.add 142 (rdF RWeight (cellsOfL [.agg #[vT ([97]), vI (-1)], .agg #[vT ([98]), vI 1]]) ([(Weight.mk [97] (-1)), (Weight.mk [98] 1)])) (RdAll.cons (by exact (RWeight.mk' (x := (Weight.mk [97] (-1))) (by first | omega | (rw [List.length_append]; omega) | (simp only [List.length_append]; omega) | (simp only [List.length_append, List.length_take, List.length_drop, List.length_cons, List.length_nil]; omega) | exact smin_len (by omega) (by omega)))) (RdAll.cons (by exact (RWeight.mk' (x := (Weight.mk [98] 1)) (by first | omega | (rw [List.length_append]; omega) | (simp only [List.length_append]; omega) | (simp only [List.length_append, List.length_take, List.length_drop, List.length_cons, List.length_nil]; omega) | exact smin_len (by omega) (by omega)))) (RdAll.nil _ _ _)))
       replace s := s.freeze (R := RWeight) (kk := 1506) (L' := [(1208, Ob.box b21 [sl Au20a1 (r14.1.Weights) cu20a1] 24), (1304, Ob.box b35 [vI 2, vT ([110, 112]), vI 0, vI 2, .slice (some ⟨b34, 0, none⟩) (2) (2)] 42)]) 143 rfl rfl (s.ft 142 rfl) ⟨rfl, rfl, trivial⟩ rfl
       refine n_1 7 s (by kernel_rfl) rfl ⟨_, _, _, rfl, rfl, rfl, rfl⟩ (l_quiet s rfl rfl (y_build (parts := [(0, .tmp 29)]) (ps := [(0, .slice (some ⟨b129, 0, none⟩) (2) (2))]) (cells := #[.slice (some ⟨b129, 0, none⟩) (2) (2)]) s rfl (by kernel_rfl)) fun a s => ?_); refine ⟨fun g _ h => h, ?_⟩
       refine n_1 8 s (by kernel_rfl) rfl ⟨_, _, _, rfl, rfl, rfl, rfl⟩ (l_call (cap := []) s rfl func9 rfl (by kernel_rfl) rfl rfl (c_r37_Same n _ _ s.lt r14.1 (Au20a1) (cu20a1) (s.ft 114 rfl) (Model.mk [(Weight.mk [97] (-1)), (Weight.mk [98] 1)]) (some ⟨b129, 0, none⟩) (2) (s.ft 143 rfl) r43 hr43) fun v130 a w hK hp s => ?_)
       replace hE := hE.grow hK; replace hZ := Nat.le_trans hZ hK.size; refine ⟨fun g _ h => h.grow hK, ?_⟩; clear hK
       obtain rfl := hp.trans (congrArg Value.bool hs46)
       refine n_1 9 s (by kernel_rfl) rfl rfl (l_quiet s rfl rfl (y_pick_t s rfl rfl) fun a s => ?_); refine ⟨fun g _ h => h, ?_⟩
       refine n_1 10 s (by kernel_rfl) rfl rfl (l_quiet s rfl rfl (y_move s rfl) fun a s => ?_); refine ⟨fun g _ h => h, ?_⟩
       refine n_ql 12 s hE rfl (by kernel_rfl) (by kernel_rfl) (by kernel_rfl) rfl ⟨_, _, _, rfl, rfl, rfl, rfl⟩ rfl (fun w' s => y_move s rfl) fun a s => ?_
       refine n_1 11 s (by kernel_rfl) rfl ⟨_, _, _, rfl, rfl, rfl, rfl⟩ (l_quiet s rfl rfl (y_loadAll (kk := 1208) s rfl rfl underlying24 rfl rfl) fun a s => ?_); refine ⟨fun g _ h => h, ?_⟩
       refine n_1 13 s (by kernel_rfl) rfl ⟨_, _, _, rfl, rfl, rfl, rfl⟩ (l_call (cap := []) s rfl func14 rfl (by kernel_rfl) rfl rfl (c_model_Best n _ _ s.lt r14.1 (Au20a1) (cu20a1) (s.ft 114 rfl) [r1, r4] (some ⟨b12, 0, none⟩) (2) (s.ft 111 rfl) r47 hr47) fun v132 a w hK hp s => ?_)
       replace hE := hE.grow hK; replace hZ := Nat.le_trans hZ hK.size; refine ⟨fun g _ h => h.grow hK, ?_⟩; clear hK
       obtain rfl := hp
       refine n_1 14 s (by kernel_rfl) rfl ⟨_, _, _, rfl, rfl, rfl, rfl⟩ (l_quiet s rfl rfl (yl_b (y_eql s rfl rfl) hs50e) fun a s => ?_); refine ⟨fun g _ h => h, ?_⟩
       refine n_1 15 s (by kernel_rfl) rfl rfl (l_quiet s rfl rfl (y_pick_t s rfl rfl) fun a s => ?_); refine ⟨fun g _ h => h, ?_⟩
       refine n_1 16 s (by kernel_rfl) rfl rfl (l_quiet s rfl rfl (y_move s rfl) fun a s => ?_); refine ⟨fun g _ h => h, ?_⟩
       refine n_ql 18 s hE rfl (by kernel_rfl) (by kernel_rfl) (by kernel_rfl) rfl ⟨_, _, _, rfl, rfl, rfl, rfl⟩ rfl (fun w' s => y_move s rfl) fun a s => ?_
       obtain ⟨p134, hep134, hpp134⟩ := SlR.elemX (s.ft 111 rfl) hx52
       refine n_ql 19 s hE rfl (by kernel_rfl) (by kernel_rfl) (by kernel_rfl) rfl ⟨_, _, _, rfl, rfl, rfl, rfl⟩ rfl (fun w' s => y_elem (sz := 5) (i := 1) s rfl rfl underlying35 rfl hep134 rfl (lt_of_get hx52)) fun a s => ?_
       refine n_2 17 20 s (by kernel_rfl) rfl ⟨_, _, _, rfl, rfl, rfl, rfl⟩ rfl ⟨_, _, _, rfl, rfl, rfl, rfl⟩ ?_ ?_
       ·refine l_quiet s rfl rfl (y_loadAll (kk := 1208) s rfl rfl underlying24 rfl rfl) fun a s => ?_; refine ⟨fun g _ h => h, ?_⟩
        obtain ⟨hlq135, hmq135, csq135, hdq135, hcq135⟩ := (SlR.again (s.ft 111 rfl) hx52 hep134)
        obtain ⟨Aq1355, cq1355, rfl, lq1352, hq1355⟩ := RDeriv.open hdq135
        replace s := s.ns 144 hq1355
        refine n_1 20 s (by kernel_rfl) rfl ⟨_, _, _, rfl, rfl, rfl, rfl⟩ (l_quiet s rfl rfl (y_ldp s rfl hlq135 hmq135 (by simpa using hcq135) underlying42 rfl rfl) fun a s => ?_); refine ⟨fun g _ h => h, ?_⟩
        refine n_1 21 s (by kernel_rfl) rfl ⟨_, _, _, rfl, rfl, rfl, rfl⟩ (l_call (cap := []) s rfl func15 rfl (by kernel_rfl) rfl rfl (c_model_Score n _ _ s.lt r14.1 (Au20a1) (cu20a1) (s.ft 114 rfl) x52 (Aq1355) (cq1355) (by omega) (s.ft 144 rfl) r54 hr54) fun v136 a w hK hp s => ?_)
        replace hE := hE.grow hK; replace hZ := Nat.le_trans hZ hK.size; refine ⟨fun g _ h => h.grow hK, ?_⟩; clear hK
        obtain rfl := hp
        refine n_1 22 s (by kernel_rfl) rfl ⟨_, _, _, rfl, rfl, rfl, rfl⟩ (l_quiet s rfl rfl (yl_b (y_eql s rfl rfl) hs57e) fun a s => ?_); refine ⟨fun g _ h => h, ?_⟩
        refine n_1 23 s (by kernel_rfl) rfl rfl (l_quiet s rfl rfl (y_pick_t s rfl rfl) fun a s => ?_); refine ⟨fun g _ h => h, ?_⟩
        refine n_1 24 s (by kernel_rfl) rfl rfl (l_quiet s rfl rfl (y_move s rfl) fun a s => ?_); refine ⟨fun g _ h => h, ?_⟩
        refine n_1 25 s (by kernel_rfl) rfl ⟨_, _, _, rfl, rfl, rfl, rfl⟩ (l_quiet s rfl rfl (y_move s rfl) fun a s => ?_); refine ⟨fun g _ h => h, ?_⟩
        refine n_1 26 s (by kernel_rfl) rfl ⟨_, _, _, rfl, rfl, rfl, rfl⟩ (l_quiet s rfl rfl (y_lenSlice s rfl underlying44) fun a s => ?_); refine ⟨fun g _ h => h, ?_⟩
        refine n_1 27 s (by kernel_rfl) rfl ⟨_, _, _, rfl, rfl, rfl, rfl⟩ (l_quiet s rfl rfl (yl_b (y_eqlN (i := ((r36).length)) (j := 4) s rfl rfl) hs58e) fun a s => ?_); refine ⟨fun g _ h => h, ?_⟩
        refine n_1 28 s (by kernel_rfl) rfl rfl (l_quiet s rfl rfl (y_pick_t s rfl rfl) fun a s => ?_); refine ⟨fun g _ h => h, ?_⟩
        refine n_1 29 s (by kernel_rfl) rfl rfl (l_quiet s rfl rfl (y_move s rfl) fun a s => ?_); refine ⟨fun g _ h => h, ?_⟩
        refine n_1 30 s (by kernel_rfl) rfl ⟨_, _, _, rfl, rfl, rfl, rfl⟩ (l_quiet s rfl rfl (y_move s rfl) fun a s => ?_); refine ⟨fun g _ h => h, ?_⟩
        obtain ⟨p138, hep138, hpp138⟩ := SlR.elemX (s.ft 124 rfl) hx60
        refine n_1 31 s (by kernel_rfl) rfl ⟨_, _, _, rfl, rfl, rfl, rfl⟩ (l_quiet s rfl rfl (y_elem (sz := 1) (i := 0) s rfl rfl underlying44 rfl hep138 rfl (lt_of_get hx60)) fun a s => ?_); refine ⟨fun g _ h => h, ?_⟩
        obtain ⟨hlq139, hmq139, csq139, hdq139, hcq139⟩ := (SlR.again (s.ft 124 rfl) hx60 hep138)
        obtain ⟨rfl, lq1391⟩ := hdq139
        refine n_1 32 s (by kernel_rfl) rfl ⟨_, _, _, rfl, rfl, rfl, rfl⟩ (l_quiet s rfl rfl (y_ldp1 s rfl hlq139 hmq139 (hcq139 0 _ rfl) underlying9 rfl) fun a s => ?_); refine ⟨fun g _ h => h, ?_⟩
        refine n_1 33 s (by kernel_rfl) rfl ⟨_, _, _, rfl, rfl, rfl, rfl⟩ (l_quiet s rfl rfl (yl_b (y_seq s rfl rfl) hs62e) fun a s => ?_); refine ⟨fun g _ h => h, ?_⟩
        refine n_1 34 s (by kernel_rfl) rfl rfl (l_quiet s rfl rfl (y_pick_t s rfl rfl) fun a s => ?_); refine ⟨fun g _ h => h, ?_⟩
        refine n_1 35 s (by kernel_rfl) rfl rfl (l_quiet s rfl rfl (y_move s rfl) fun a s => ?_); refine ⟨fun g _ h => h, ?_⟩
        refine n_1 36 s (by kernel_rfl) rfl ⟨_, _, _, rfl, rfl, rfl, rfl⟩ (l_quiet s rfl rfl (y_move s rfl) fun a s => ?_); refine ⟨fun g _ h => h, ?_⟩
        obtain ⟨p140, hep140, hpp140⟩ := SlR.elemX (s.ft 124 rfl) hx64
        refine n_1 37 s (by kernel_rfl) rfl ⟨_, _, _, rfl, rfl, rfl, rfl⟩ (l_quiet s rfl rfl (y_elem (sz := 1) (i := 1) s rfl rfl underlying44 rfl hep140 rfl (lt_of_get hx64)) fun a s => ?_); refine ⟨fun g _ h => h, ?_⟩
        obtain ⟨hlq141, hmq141, csq141, hdq141, hcq141⟩ := (SlR.again (s.ft 124 rfl) hx64 hep140)
        obtain ⟨rfl, lq1411⟩ := hdq141
        refine n_1 38 s (by kernel_rfl) rfl ⟨_, _, _, rfl, rfl, rfl, rfl⟩ (l_quiet s rfl rfl (y_ldp1 s rfl hlq141 hmq141 (hcq141 0 _ rfl) underlying9 rfl) fun a s => ?_); refine ⟨fun g _ h => h, ?_⟩
        refine n_1 39 s (by kernel_rfl) rfl ⟨_, _, _, rfl, rfl, rfl, rfl⟩ (l_quiet s rfl rfl (yl_b (y_seq s rfl rfl) hs66e) fun a s => ?_); refine ⟨fun g _ h => h, ?_⟩
        refine n_1 40 s (by kernel_rfl) rfl rfl (l_quiet s rfl rfl (y_pick_t s rfl rfl) fun a s => ?_); refine ⟨fun g _ h => h, ?_⟩
        refine n_1 41 s (by kernel_rfl) rfl rfl (l_quiet s rfl rfl (y_move s rfl) fun a s => ?_); refine ⟨fun g _ h => h, ?_⟩
        refine n_pass 42 s (by kernel_rfl) rfl ⟨_, _, _, rfl, rfl, rfl, rfl⟩ rfl rfl fun a s => ?_
        refine n_pass 43 s (by kernel_rfl) rfl ⟨_, _, _, rfl, rfl, rfl, rfl⟩ rfl rfl fun a s => ?_
        refine n_pass 44 s (by kernel_rfl) rfl ⟨_, _, _, rfl, rfl, rfl, rfl⟩ rfl rfl fun a s => ?_
        refine n_pass 45 s (by kernel_rfl) rfl ⟨_, _, _, rfl, rfl, rfl, rfl⟩ rfl rfl fun a s => ?_
        refine n_1 46 s (by kernel_rfl) rfl rfl (l_quiet s rfl rfl (y_pick_f s rfl rfl) fun a s => ?_); refine ⟨fun g _ h => h, ?_⟩
        refine n_1 47 s (by kernel_rfl) rfl rfl (l_quiet s rfl rfl (y_move s rfl) fun a s => ?_); refine ⟨fun g _ h => h, ?_⟩
        refine n_pass 48 s (by kernel_rfl) rfl ⟨_, _, _, rfl, rfl, rfl, rfl⟩ rfl rfl fun a s => ?_
        refine n_pass 49 s (by kernel_rfl) rfl ⟨_, _, _, rfl, rfl, rfl, rfl⟩ rfl rfl fun a s => ?_
        refine n_pass 50 s (by kernel_rfl) rfl ⟨_, _, _, rfl, rfl, rfl, rfl⟩ rfl rfl fun a s => ?_
        refine n_pass 51 s (by kernel_rfl) rfl ⟨_, _, _, rfl, rfl, rfl, rfl⟩ rfl rfl fun a s => ?_
        refine n_pass 52 s (by kernel_rfl) rfl ⟨_, _, _, rfl, rfl, rfl, rfl⟩ rfl rfl fun a s => ?_
        refine n_1 53 s (by kernel_rfl) rfl rfl (l_quiet s rfl rfl (y_pick_f s rfl rfl) fun a s => ?_); refine ⟨fun g _ h => h, ?_⟩
        refine n_1 54 s (by kernel_rfl) rfl rfl (l_quiet s rfl rfl (y_assign s rfl) fun a s => ?_); refine ⟨fun g _ h => h, ?_⟩
        refine n_end (by kernel_rfl) ?_; clear hR hZ hE
        apply pN
        apply wp_ret
        obtain rfl := Option.some.inj hg
        refine fin1 (fn := Tryz.f6) s rfl (r_tmp s rfl) ?_
        exact rfl
       ·obtain ⟨hlq142, hmq142, csq142, hdq142, hcq142⟩ := (SlR.again (s.ft 111 rfl) hx52 hep134)
        obtain ⟨Aq1425, cq1425, rfl, lq1422, hq1425⟩ := RDeriv.open hdq142
        replace s := s.ns 145 hq1425
        refine l_quiet s rfl rfl (y_ldp s rfl hlq142 hmq142 (by simpa using hcq142) underlying42 rfl rfl) fun a s => ?_; refine ⟨fun g _ h => h, ?_⟩
        refine n_1 17 s (by kernel_rfl) rfl ⟨_, _, _, rfl, rfl, rfl, rfl⟩ (l_quiet s rfl rfl (y_loadAll (kk := 1208) s rfl rfl underlying24 rfl rfl) fun a s => ?_); refine ⟨fun g _ h => h, ?_⟩
        refine n_1 21 s (by kernel_rfl) rfl ⟨_, _, _, rfl, rfl, rfl, rfl⟩ (l_call (cap := []) s rfl func15 rfl (by kernel_rfl) rfl rfl (c_model_Score n _ _ s.lt r14.1 (Au20a1) (cu20a1) (s.ft 114 rfl) x52 (Aq1425) (cq1425) (by omega) (s.ft 145 rfl) r54 hr54) fun v143 a w hK hp s => ?_)
        replace hE := hE.grow hK; replace hZ := Nat.le_trans hZ hK.size; refine ⟨fun g _ h => h.grow hK, ?_⟩; clear hK
        obtain rfl := hp
        refine n_1 22 s (by kernel_rfl) rfl ⟨_, _, _, rfl, rfl, rfl, rfl⟩ (l_quiet s rfl rfl (yl_b (y_eql s rfl rfl) hs57e) fun a s => ?_); refine ⟨fun g _ h => h, ?_⟩
        refine n_1 23 s (by kernel_rfl) rfl rfl (l_quiet s rfl rfl (y_pick_t s rfl rfl) fun a s => ?_); refine ⟨fun g _ h => h, ?_⟩
        refine n_1 24 s (by kernel_rfl) rfl rfl (l_quiet s rfl rfl (y_move s rfl) fun a s => ?_); refine ⟨fun g _ h => h, ?_⟩
        refine n_1 25 s (by kernel_rfl) rfl ⟨_, _, _, rfl, rfl, rfl, rfl⟩ (l_quiet s rfl rfl (y_move s rfl) fun a s => ?_); refine ⟨fun g _ h => h, ?_⟩
        refine n_1 26 s (by kernel_rfl) rfl ⟨_, _, _, rfl, rfl, rfl, rfl⟩ (l_quiet s rfl rfl (y_lenSlice s rfl underlying44) fun a s => ?_); refine ⟨fun g _ h => h, ?_⟩
        refine n_1 27 s (by kernel_rfl) rfl ⟨_, _, _, rfl, rfl, rfl, rfl⟩ (l_quiet s rfl rfl (yl_b (y_eqlN (i := ((r36).length)) (j := 4) s rfl rfl) hs58e) fun a s => ?_); refine ⟨fun g _ h => h, ?_⟩
        refine n_1 28 s (by kernel_rfl) rfl rfl (l_quiet s rfl rfl (y_pick_t s rfl rfl) fun a s => ?_); refine ⟨fun g _ h => h, ?_⟩
        refine n_1 29 s (by kernel_rfl) rfl rfl (l_quiet s rfl rfl (y_move s rfl) fun a s => ?_); refine ⟨fun g _ h => h, ?_⟩
        refine n_1 30 s (by kernel_rfl) rfl ⟨_, _, _, rfl, rfl, rfl, rfl⟩ (l_quiet s rfl rfl (y_move s rfl) fun a s => ?_); refine ⟨fun g _ h => h, ?_⟩
        obtain ⟨p145, hep145, hpp145⟩ := SlR.elemX (s.ft 124 rfl) hx60
        refine n_1 31 s (by kernel_rfl) rfl ⟨_, _, _, rfl, rfl, rfl, rfl⟩ (l_quiet s rfl rfl (y_elem (sz := 1) (i := 0) s rfl rfl underlying44 rfl hep145 rfl (lt_of_get hx60)) fun a s => ?_); refine ⟨fun g _ h => h, ?_⟩
        obtain ⟨hlq146, hmq146, csq146, hdq146, hcq146⟩ := (SlR.again (s.ft 124 rfl) hx60 hep145)
        obtain ⟨rfl, lq1461⟩ := hdq146
        refine n_1 32 s (by kernel_rfl) rfl ⟨_, _, _, rfl, rfl, rfl, rfl⟩ (l_quiet s rfl rfl (y_ldp1 s rfl hlq146 hmq146 (hcq146 0 _ rfl) underlying9 rfl) fun a s => ?_); refine ⟨fun g _ h => h, ?_⟩
        refine n_1 33 s (by kernel_rfl) rfl ⟨_, _, _, rfl, rfl, rfl, rfl⟩ (l_quiet s rfl rfl (yl_b (y_seq s rfl rfl) hs62e) fun a s => ?_); refine ⟨fun g _ h => h, ?_⟩
        refine n_1 34 s (by kernel_rfl) rfl rfl (l_quiet s rfl rfl (y_pick_t s rfl rfl) fun a s => ?_); refine ⟨fun g _ h => h, ?_⟩
        refine n_1 35 s (by kernel_rfl) rfl rfl (l_quiet s rfl rfl (y_move s rfl) fun a s => ?_); refine ⟨fun g _ h => h, ?_⟩
        refine n_1 36 s (by kernel_rfl) rfl ⟨_, _, _, rfl, rfl, rfl, rfl⟩ (l_quiet s rfl rfl (y_move s rfl) fun a s => ?_); refine ⟨fun g _ h => h, ?_⟩
        obtain ⟨p147, hep147, hpp147⟩ := SlR.elemX (s.ft 124 rfl) hx64
        refine n_1 37 s (by kernel_rfl) rfl ⟨_, _, _, rfl, rfl, rfl, rfl⟩ (l_quiet s rfl rfl (y_elem (sz := 1) (i := 1) s rfl rfl underlying44 rfl hep147 rfl (lt_of_get hx64)) fun a s => ?_); refine ⟨fun g _ h => h, ?_⟩
        obtain ⟨hlq148, hmq148, csq148, hdq148, hcq148⟩ := (SlR.again (s.ft 124 rfl) hx64 hep147)
        obtain ⟨rfl, lq1481⟩ := hdq148
        refine n_1 38 s (by kernel_rfl) rfl ⟨_, _, _, rfl, rfl, rfl, rfl⟩ (l_quiet s rfl rfl (y_ldp1 s rfl hlq148 hmq148 (hcq148 0 _ rfl) underlying9 rfl) fun a s => ?_); refine ⟨fun g _ h => h, ?_⟩
        refine n_1 39 s (by kernel_rfl) rfl ⟨_, _, _, rfl, rfl, rfl, rfl⟩ (l_quiet s rfl rfl (yl_b (y_seq s rfl rfl) hs66e) fun a s => ?_); refine ⟨fun g _ h => h, ?_⟩
        refine n_1 40 s (by kernel_rfl) rfl rfl (l_quiet s rfl rfl (y_pick_t s rfl rfl) fun a s => ?_); refine ⟨fun g _ h => h, ?_⟩
        refine n_1 41 s (by kernel_rfl) rfl rfl (l_quiet s rfl rfl (y_move s rfl) fun a s => ?_); refine ⟨fun g _ h => h, ?_⟩
        refine n_pass 42 s (by kernel_rfl) rfl ⟨_, _, _, rfl, rfl, rfl, rfl⟩ rfl rfl fun a s => ?_
        refine n_pass 43 s (by kernel_rfl) rfl ⟨_, _, _, rfl, rfl, rfl, rfl⟩ rfl rfl fun a s => ?_
        refine n_pass 44 s (by kernel_rfl) rfl ⟨_, _, _, rfl, rfl, rfl, rfl⟩ rfl rfl fun a s => ?_
        refine n_pass 45 s (by kernel_rfl) rfl ⟨_, _, _, rfl, rfl, rfl, rfl⟩ rfl rfl fun a s => ?_
        refine n_1 46 s (by kernel_rfl) rfl rfl (l_quiet s rfl rfl (y_pick_f s rfl rfl) fun a s => ?_); refine ⟨fun g _ h => h, ?_⟩
        refine n_1 47 s (by kernel_rfl) rfl rfl (l_quiet s rfl rfl (y_move s rfl) fun a s => ?_); refine ⟨fun g _ h => h, ?_⟩
        refine n_pass 48 s (by kernel_rfl) rfl ⟨_, _, _, rfl, rfl, rfl, rfl⟩ rfl rfl fun a s => ?_
        refine n_pass 49 s (by kernel_rfl) rfl ⟨_, _, _, rfl, rfl, rfl, rfl⟩ rfl rfl fun a s => ?_
        refine n_pass 50 s (by kernel_rfl) rfl ⟨_, _, _, rfl, rfl, rfl, rfl⟩ rfl rfl fun a s => ?_
        refine n_pass 51 s (by kernel_rfl) rfl ⟨_, _, _, rfl, rfl, rfl, rfl⟩ rfl rfl fun a s => ?_
        refine n_pass 52 s (by kernel_rfl) rfl ⟨_, _, _, rfl, rfl, rfl, rfl⟩ rfl rfl fun a s => ?_
        refine n_1 53 s (by kernel_rfl) rfl rfl (l_quiet s rfl rfl (y_pick_f s rfl rfl) fun a s => ?_); refine ⟨fun g _ h => h, ?_⟩
        refine n_1 54 s (by kernel_rfl) rfl rfl (l_quiet s rfl rfl (y_assign s rfl) fun a s => ?_); refine ⟨fun g _ h => h, ?_⟩
        refine n_end (by kernel_rfl) ?_; clear hR hZ hE
        apply pN
        apply wp_ret
        obtain rfl := Option.some.inj hg
        refine fin1 (fn := Tryz.f6) s rfl (r_tmp s rfl) ?_
        exact rfl
      have hs62e := decide_eq_false hs62
      replace hg := br_f hg hs62
      refine d_steps s [] rfl ?_; clear s; intro wr hZ s; have hR := s.wd; have hE := Ext.init hR 0
      refine n_q 0 0 s hR rfl (by kernel_rfl) (by kernel_rfl) (by kernel_rfl) rfl rfl rfl (y_move s rfl) fun a s => ?_
      refine n_q 1 0 s hR rfl (by kernel_rfl) (by kernel_rfl) (by kernel_rfl) rfl rfl rfl (yl_b (y_eql s rfl rfl) hs41e) fun a s => ?_
      refine n_q 2 0 s hR rfl (by kernel_rfl) (by kernel_rfl) (by kernel_rfl) rfl rfl rfl (y_move s rfl) fun a s => ?_
      refine n_q 3 1208 s hR rfl (by kernel_rfl) (by kernel_rfl) (by kernel_rfl) rfl ⟨_, _, _, rfl, rfl, rfl, rfl⟩ rfl (y_loadAll (kk := 1208) s rfl rfl underlying24 rfl rfl) fun a s => ?_
      refine n_q 4 0 s hR rfl (by kernel_rfl) (by kernel_rfl) (by kernel_rfl) rfl ⟨_, _, _, rfl, rfl, rfl, rfl⟩ rfl (y_build (parts := [(0, .const (vT ([97]))), (1, .const (vI (-1)))]) (ps := [(0, vT ([97])), (1, vI (-1))]) (cells := #[vT ([97]), vI (-1)]) s rfl (by kernel_rfl)) fun a s => ?_
      refine n_q 5 0 s hR rfl (by kernel_rfl) (by kernel_rfl) (by kernel_rfl) rfl ⟨_, _, _, rfl, rfl, rfl, rfl⟩ rfl (y_build (parts := [(0, .const (vT ([98]))), (1, .const (vI 1))]) (ps := [(0, vT ([98])), (1, vI 1)]) (cells := #[vT ([98]), vI 1]) s rfl (by kernel_rfl)) fun a s => ?_
      refine n_1 6 s (by kernel_rfl) rfl ⟨_, _, _, rfl, rfl, rfl, rfl⟩ (l_buildDense (sz := 2) s 1506 rfl rfl rfl underlying22 rfl rfl rfl rfl rfl rfl rfl fun b149 a w hbb149 hK s => ?_)
      have hNb149 := NewA.lit hZ hbb149
      clear hbb149
      replace hE := hE.grow hK; replace hZ := Nat.le_trans hZ hK.size; refine ⟨fun g _ h => h.grow hK, ?_⟩; clear hK
      replace s := s.add 146 (rdF RWeight (cellsOfL [.agg #[vT ([97]), vI (-1)], .agg #[vT ([98]), vI 1]]) ([(Weight.mk [97] (-1)), (Weight.mk [98] 1)])) (RdAll.cons (by exact (RWeight.mk' (x := (Weight.mk [97] (-1))) (by first | omega | (rw [List.length_append]; omega) | (simp only [List.length_append]; omega) | (simp only [List.length_append, List.length_take, List.length_drop, List.length_cons, List.length_nil]; omega) | exact smin_len (by omega) (by omega)))) (RdAll.cons (by exact (RWeight.mk' (x := (Weight.mk [98] 1)) (by first | omega | (rw [List.length_append]; omega) | (simp only [List.length_append]; omega) | (simp only [List.length_append, List.length_take, List.length_drop, List.length_cons, List.length_nil]; omega) | exact smin_len (by omega) (by omega)))) (RdAll.nil _ _ _)))
      replace s := s.freeze (R := RWeight) (kk := 1506) (L' := [(1208, Ob.box b21 [sl Au20a1 (r14.1.Weights) cu20a1] 24), (1304, Ob.box b35 [vI 2, vT ([110, 112]), vI 0, vI 2, .slice (some ⟨b34, 0, none⟩) (2) (2)] 42)]) 147 rfl rfl (s.ft 146 rfl) ⟨rfl, rfl, trivial⟩ rfl
      refine n_1 7 s (by kernel_rfl) rfl ⟨_, _, _, rfl, rfl, rfl, rfl⟩ (l_quiet s rfl rfl (y_build (parts := [(0, .tmp 29)]) (ps := [(0, .slice (some ⟨b149, 0, none⟩) (2) (2))]) (cells := #[.slice (some ⟨b149, 0, none⟩) (2) (2)]) s rfl (by kernel_rfl)) fun a s => ?_); refine ⟨fun g _ h => h, ?_⟩
      refine n_1 8 s (by kernel_rfl) rfl ⟨_, _, _, rfl, rfl, rfl, rfl⟩ (l_call (cap := []) s rfl func9 rfl (by kernel_rfl) rfl rfl (c_r37_Same n _ _ s.lt r14.1 (Au20a1) (cu20a1) (s.ft 114 rfl) (Model.mk [(Weight.mk [97] (-1)), (Weight.mk [98] 1)]) (some ⟨b149, 0, none⟩) (2) (s.ft 147 rfl) r43 hr43) fun v150 a w hK hp s => ?_)
      replace hE := hE.grow hK; replace hZ := Nat.le_trans hZ hK.size; refine ⟨fun g _ h => h.grow hK, ?_⟩; clear hK
      obtain rfl := hp.trans (congrArg Value.bool hs46)
      refine n_1 9 s (by kernel_rfl) rfl rfl (l_quiet s rfl rfl (y_pick_t s rfl rfl) fun a s => ?_); refine ⟨fun g _ h => h, ?_⟩
      refine n_1 10 s (by kernel_rfl) rfl rfl (l_quiet s rfl rfl (y_move s rfl) fun a s => ?_); refine ⟨fun g _ h => h, ?_⟩
      refine n_ql 12 s hE rfl (by kernel_rfl) (by kernel_rfl) (by kernel_rfl) rfl ⟨_, _, _, rfl, rfl, rfl, rfl⟩ rfl (fun w' s => y_move s rfl) fun a s => ?_
      refine n_1 11 s (by kernel_rfl) rfl ⟨_, _, _, rfl, rfl, rfl, rfl⟩ (l_quiet s rfl rfl (y_loadAll (kk := 1208) s rfl rfl underlying24 rfl rfl) fun a s => ?_); refine ⟨fun g _ h => h, ?_⟩
      refine n_1 13 s (by kernel_rfl) rfl ⟨_, _, _, rfl, rfl, rfl, rfl⟩ (l_call (cap := []) s rfl func14 rfl (by kernel_rfl) rfl rfl (c_model_Best n _ _ s.lt r14.1 (Au20a1) (cu20a1) (s.ft 114 rfl) [r1, r4] (some ⟨b12, 0, none⟩) (2) (s.ft 111 rfl) r47 hr47) fun v152 a w hK hp s => ?_)
      replace hE := hE.grow hK; replace hZ := Nat.le_trans hZ hK.size; refine ⟨fun g _ h => h.grow hK, ?_⟩; clear hK
      obtain rfl := hp
      refine n_1 14 s (by kernel_rfl) rfl ⟨_, _, _, rfl, rfl, rfl, rfl⟩ (l_quiet s rfl rfl (yl_b (y_eql s rfl rfl) hs50e) fun a s => ?_); refine ⟨fun g _ h => h, ?_⟩
      refine n_1 15 s (by kernel_rfl) rfl rfl (l_quiet s rfl rfl (y_pick_t s rfl rfl) fun a s => ?_); refine ⟨fun g _ h => h, ?_⟩
      refine n_1 16 s (by kernel_rfl) rfl rfl (l_quiet s rfl rfl (y_move s rfl) fun a s => ?_); refine ⟨fun g _ h => h, ?_⟩
      refine n_ql 18 s hE rfl (by kernel_rfl) (by kernel_rfl) (by kernel_rfl) rfl ⟨_, _, _, rfl, rfl, rfl, rfl⟩ rfl (fun w' s => y_move s rfl) fun a s => ?_
      obtain ⟨p154, hep154, hpp154⟩ := SlR.elemX (s.ft 111 rfl) hx52
      refine n_ql 19 s hE rfl (by kernel_rfl) (by kernel_rfl) (by kernel_rfl) rfl ⟨_, _, _, rfl, rfl, rfl, rfl⟩ rfl (fun w' s => y_elem (sz := 5) (i := 1) s rfl rfl underlying35 rfl hep154 rfl (lt_of_get hx52)) fun a s => ?_
      refine n_2 17 20 s (by kernel_rfl) rfl ⟨_, _, _, rfl, rfl, rfl, rfl⟩ rfl ⟨_, _, _, rfl, rfl, rfl, rfl⟩ ?_ ?_
      ·refine l_quiet s rfl rfl (y_loadAll (kk := 1208) s rfl rfl underlying24 rfl rfl) fun a s => ?_; refine ⟨fun g _ h => h, ?_⟩
       obtain ⟨hlq155, hmq155, csq155, hdq155, hcq155⟩ := (SlR.again (s.ft 111 rfl) hx52 hep154)
       obtain ⟨Aq1555, cq1555, rfl, lq1552, hq1555⟩ := RDeriv.open hdq155
       replace s := s.ns 148 hq1555
       refine n_1 20 s (by kernel_rfl) rfl ⟨_, _, _, rfl, rfl, rfl, rfl⟩ (l_quiet s rfl rfl (y_ldp s rfl hlq155 hmq155 (by simpa using hcq155) underlying42 rfl rfl) fun a s => ?_); refine ⟨fun g _ h => h, ?_⟩
       refine n_1 21 s (by kernel_rfl) rfl ⟨_, _, _, rfl, rfl, rfl, rfl⟩ (l_call (cap := []) s rfl func15 rfl (by kernel_rfl) rfl rfl (c_model_Score n _ _ s.lt r14.1 (Au20a1) (cu20a1) (s.ft 114 rfl) x52 (Aq1555) (cq1555) (by omega) (s.ft 148 rfl) r54 hr54) fun v156 a w hK hp s => ?_)
       replace hE := hE.grow hK; replace hZ := Nat.le_trans hZ hK.size; refine ⟨fun g _ h => h.grow hK, ?_⟩; clear hK
       obtain rfl := hp
       refine n_1 22 s (by kernel_rfl) rfl ⟨_, _, _, rfl, rfl, rfl, rfl⟩ (l_quiet s rfl rfl (yl_b (y_eql s rfl rfl) hs57e) fun a s => ?_); refine ⟨fun g _ h => h, ?_⟩
       refine n_1 23 s (by kernel_rfl) rfl rfl (l_quiet s rfl rfl (y_pick_t s rfl rfl) fun a s => ?_); refine ⟨fun g _ h => h, ?_⟩
       refine n_1 24 s (by kernel_rfl) rfl rfl (l_quiet s rfl rfl (y_move s rfl) fun a s => ?_); refine ⟨fun g _ h => h, ?_⟩
       refine n_1 25 s (by kernel_rfl) rfl ⟨_, _, _, rfl, rfl, rfl, rfl⟩ (l_quiet s rfl rfl (y_move s rfl) fun a s => ?_); refine ⟨fun g _ h => h, ?_⟩
       refine n_1 26 s (by kernel_rfl) rfl ⟨_, _, _, rfl, rfl, rfl, rfl⟩ (l_quiet s rfl rfl (y_lenSlice s rfl underlying44) fun a s => ?_); refine ⟨fun g _ h => h, ?_⟩
       refine n_1 27 s (by kernel_rfl) rfl ⟨_, _, _, rfl, rfl, rfl, rfl⟩ (l_quiet s rfl rfl (yl_b (y_eqlN (i := ((r36).length)) (j := 4) s rfl rfl) hs58e) fun a s => ?_); refine ⟨fun g _ h => h, ?_⟩
       refine n_1 28 s (by kernel_rfl) rfl rfl (l_quiet s rfl rfl (y_pick_t s rfl rfl) fun a s => ?_); refine ⟨fun g _ h => h, ?_⟩
       refine n_1 29 s (by kernel_rfl) rfl rfl (l_quiet s rfl rfl (y_move s rfl) fun a s => ?_); refine ⟨fun g _ h => h, ?_⟩
       refine n_1 30 s (by kernel_rfl) rfl ⟨_, _, _, rfl, rfl, rfl, rfl⟩ (l_quiet s rfl rfl (y_move s rfl) fun a s => ?_); refine ⟨fun g _ h => h, ?_⟩
       obtain ⟨p158, hep158, hpp158⟩ := SlR.elemX (s.ft 124 rfl) hx60
       refine n_1 31 s (by kernel_rfl) rfl ⟨_, _, _, rfl, rfl, rfl, rfl⟩ (l_quiet s rfl rfl (y_elem (sz := 1) (i := 0) s rfl rfl underlying44 rfl hep158 rfl (lt_of_get hx60)) fun a s => ?_); refine ⟨fun g _ h => h, ?_⟩
       obtain ⟨hlq159, hmq159, csq159, hdq159, hcq159⟩ := (SlR.again (s.ft 124 rfl) hx60 hep158)
       obtain ⟨rfl, lq1591⟩ := hdq159
       refine n_1 32 s (by kernel_rfl) rfl ⟨_, _, _, rfl, rfl, rfl, rfl⟩ (l_quiet s rfl rfl (y_ldp1 s rfl hlq159 hmq159 (hcq159 0 _ rfl) underlying9 rfl) fun a s => ?_); refine ⟨fun g _ h => h, ?_⟩
       refine n_1 33 s (by kernel_rfl) rfl ⟨_, _, _, rfl, rfl, rfl, rfl⟩ (l_quiet s rfl rfl (yl_b (y_seq s rfl rfl) hs62e) fun a s => ?_); refine ⟨fun g _ h => h, ?_⟩
       refine n_1 34 s (by kernel_rfl) rfl rfl (l_quiet s rfl rfl (y_pick_t s rfl rfl) fun a s => ?_); refine ⟨fun g _ h => h, ?_⟩
       refine n_1 35 s (by kernel_rfl) rfl rfl (l_quiet s rfl rfl (y_move s rfl) fun a s => ?_); refine ⟨fun g _ h => h, ?_⟩
       refine n_pass 36 s (by kernel_rfl) rfl ⟨_, _, _, rfl, rfl, rfl, rfl⟩ rfl rfl fun a s => ?_
       refine n_pass 37 s (by kernel_rfl) rfl ⟨_, _, _, rfl, rfl, rfl, rfl⟩ rfl rfl fun a s => ?_
       refine n_pass 38 s (by kernel_rfl) rfl ⟨_, _, _, rfl, rfl, rfl, rfl⟩ rfl rfl fun a s => ?_
       refine n_pass 39 s (by kernel_rfl) rfl ⟨_, _, _, rfl, rfl, rfl, rfl⟩ rfl rfl fun a s => ?_
       refine n_1 40 s (by kernel_rfl) rfl rfl (l_quiet s rfl rfl (y_pick_f s rfl rfl) fun a s => ?_); refine ⟨fun g _ h => h, ?_⟩
       refine n_1 41 s (by kernel_rfl) rfl rfl (l_quiet s rfl rfl (y_move s rfl) fun a s => ?_); refine ⟨fun g _ h => h, ?_⟩
       refine n_pass 42 s (by kernel_rfl) rfl ⟨_, _, _, rfl, rfl, rfl, rfl⟩ rfl rfl fun a s => ?_
       refine n_pass 43 s (by kernel_rfl) rfl ⟨_, _, _, rfl, rfl, rfl, rfl⟩ rfl rfl fun a s => ?_
       refine n_pass 44 s (by kernel_rfl) rfl ⟨_, _, _, rfl, rfl, rfl, rfl⟩ rfl rfl fun a s => ?_
       refine n_pass 45 s (by kernel_rfl) rfl ⟨_, _, _, rfl, rfl, rfl, rfl⟩ rfl rfl fun a s => ?_
       refine n_1 46 s (by kernel_rfl) rfl rfl (l_quiet s rfl rfl (y_pick_f s rfl rfl) fun a s => ?_); refine ⟨fun g _ h => h, ?_⟩
       refine n_1 47 s (by kernel_rfl) rfl rfl (l_quiet s rfl rfl (y_move s rfl) fun a s => ?_); refine ⟨fun g _ h => h, ?_⟩
       refine n_pass 48 s (by kernel_rfl) rfl ⟨_, _, _, rfl, rfl, rfl, rfl⟩ rfl rfl fun a s => ?_
       refine n_pass 49 s (by kernel_rfl) rfl ⟨_, _, _, rfl, rfl, rfl, rfl⟩ rfl rfl fun a s => ?_
       refine n_pass 50 s (by kernel_rfl) rfl ⟨_, _, _, rfl, rfl, rfl, rfl⟩ rfl rfl fun a s => ?_
       refine n_pass 51 s (by kernel_rfl) rfl ⟨_, _, _, rfl, rfl, rfl, rfl⟩ rfl rfl fun a s => ?_
       refine n_pass 52 s (by kernel_rfl) rfl ⟨_, _, _, rfl, rfl, rfl, rfl⟩ rfl rfl fun a s => ?_
       refine n_1 53 s (by kernel_rfl) rfl rfl (l_quiet s rfl rfl (y_pick_f s rfl rfl) fun a s => ?_); refine ⟨fun g _ h => h, ?_⟩
       refine n_1 54 s (by kernel_rfl) rfl rfl (l_quiet s rfl rfl (y_assign s rfl) fun a s => ?_); refine ⟨fun g _ h => h, ?_⟩
       refine n_end (by kernel_rfl) ?_; clear hR hZ hE
       apply pN
       apply wp_ret
       obtain rfl := Option.some.inj hg
       refine fin1 (fn := Tryz.f6) s rfl (r_tmp s rfl) ?_
       exact rfl
      ·obtain ⟨hlq160, hmq160, csq160, hdq160, hcq160⟩ := (SlR.again (s.ft 111 rfl) hx52 hep154)
       obtain ⟨Aq1605, cq1605, rfl, lq1602, hq1605⟩ := RDeriv.open hdq160
       replace s := s.ns 149 hq1605
       refine l_quiet s rfl rfl (y_ldp s rfl hlq160 hmq160 (by simpa using hcq160) underlying42 rfl rfl) fun a s => ?_; refine ⟨fun g _ h => h, ?_⟩
       refine n_1 17 s (by kernel_rfl) rfl ⟨_, _, _, rfl, rfl, rfl, rfl⟩ (l_quiet s rfl rfl (y_loadAll (kk := 1208) s rfl rfl underlying24 rfl rfl) fun a s => ?_); refine ⟨fun g _ h => h, ?_⟩
       refine n_1 21 s (by kernel_rfl) rfl ⟨_, _, _, rfl, rfl, rfl, rfl⟩ (l_call (cap := []) s rfl func15 rfl (by kernel_rfl) rfl rfl (c_model_Score n _ _ s.lt r14.1 (Au20a1) (cu20a1) (s.ft 114 rfl) x52 (Aq1605) (cq1605) (by omega) (s.ft 149 rfl) r54 hr54) fun v161 a w hK hp s => ?_)
       replace hE := hE.grow hK; replace hZ := Nat.le_trans hZ hK.size; refine ⟨fun g _ h => h.grow hK, ?_⟩; clear hK
       obtain rfl := hp
       refine n_1 22 s (by kernel_rfl) rfl ⟨_, _, _, rfl, rfl, rfl, rfl⟩ (l_quiet s rfl rfl (yl_b (y_eql s rfl rfl) hs57e) fun a s => ?_); refine ⟨fun g _ h => h, ?_⟩
       refine n_1 23 s (by kernel_rfl) rfl rfl (l_quiet s rfl rfl (y_pick_t s rfl rfl) fun a s => ?_); refine ⟨fun g _ h => h, ?_⟩
       refine n_1 24 s (by kernel_rfl) rfl rfl (l_quiet s rfl rfl (y_move s rfl) fun a s => ?_); refine ⟨fun g _ h => h, ?_⟩
       refine n_1 25 s (by kernel_rfl) rfl ⟨_, _, _, rfl, rfl, rfl, rfl⟩ (l_quiet s rfl rfl (y_move s rfl) fun a s => ?_); refine ⟨fun g _ h => h, ?_⟩
       refine n_1 26 s (by kernel_rfl) rfl ⟨_, _, _, rfl, rfl, rfl, rfl⟩ (l_quiet s rfl rfl (y_lenSlice s rfl underlying44) fun a s => ?_); refine ⟨fun g _ h => h, ?_⟩
       refine n_1 27 s (by kernel_rfl) rfl ⟨_, _, _, rfl, rfl, rfl, rfl⟩ (l_quiet s rfl rfl (yl_b (y_eqlN (i := ((r36).length)) (j := 4) s rfl rfl) hs58e) fun a s => ?_); refine ⟨fun g _ h => h, ?_⟩
       refine n_1 28 s (by kernel_rfl) rfl rfl (l_quiet s rfl rfl (y_pick_t s rfl rfl) fun a s => ?_); refine ⟨fun g _ h => h, ?_⟩
       refine n_1 29 s (by kernel_rfl) rfl rfl (l_quiet s rfl rfl (y_move s rfl) fun a s => ?_); refine ⟨fun g _ h => h, ?_⟩
       refine n_1 30 s (by kernel_rfl) rfl ⟨_, _, _, rfl, rfl, rfl, rfl⟩ (l_quiet s rfl rfl (y_move s rfl) fun a s => ?_); refine ⟨fun g _ h => h, ?_⟩
       obtain ⟨p163, hep163, hpp163⟩ := SlR.elemX (s.ft 124 rfl) hx60
       refine n_1 31 s (by kernel_rfl) rfl ⟨_, _, _, rfl, rfl, rfl, rfl⟩ (l_quiet s rfl rfl (y_elem (sz := 1) (i := 0) s rfl rfl underlying44 rfl hep163 rfl (lt_of_get hx60)) fun a s => ?_); refine ⟨fun g _ h => h, ?_⟩
       obtain ⟨hlq164, hmq164, csq164, hdq164, hcq164⟩ := (SlR.again (s.ft 124 rfl) hx60 hep163)
       obtain ⟨rfl, lq1641⟩ := hdq164
       refine n_1 32 s (by kernel_rfl) rfl ⟨_, _, _, rfl, rfl, rfl, rfl⟩ (l_quiet s rfl rfl (y_ldp1 s rfl hlq164 hmq164 (hcq164 0 _ rfl) underlying9 rfl) fun a s => ?_); refine ⟨fun g _ h => h, ?_⟩
       refine n_1 33 s (by kernel_rfl) rfl ⟨_, _, _, rfl, rfl, rfl, rfl⟩ (l_quiet s rfl rfl (yl_b (y_seq s rfl rfl) hs62e) fun a s => ?_); refine ⟨fun g _ h => h, ?_⟩
       refine n_1 34 s (by kernel_rfl) rfl rfl (l_quiet s rfl rfl (y_pick_t s rfl rfl) fun a s => ?_); refine ⟨fun g _ h => h, ?_⟩
       refine n_1 35 s (by kernel_rfl) rfl rfl (l_quiet s rfl rfl (y_move s rfl) fun a s => ?_); refine ⟨fun g _ h => h, ?_⟩
       refine n_pass 36 s (by kernel_rfl) rfl ⟨_, _, _, rfl, rfl, rfl, rfl⟩ rfl rfl fun a s => ?_
       refine n_pass 37 s (by kernel_rfl) rfl ⟨_, _, _, rfl, rfl, rfl, rfl⟩ rfl rfl fun a s => ?_
       refine n_pass 38 s (by kernel_rfl) rfl ⟨_, _, _, rfl, rfl, rfl, rfl⟩ rfl rfl fun a s => ?_
       refine n_pass 39 s (by kernel_rfl) rfl ⟨_, _, _, rfl, rfl, rfl, rfl⟩ rfl rfl fun a s => ?_
       refine n_1 40 s (by kernel_rfl) rfl rfl (l_quiet s rfl rfl (y_pick_f s rfl rfl) fun a s => ?_); refine ⟨fun g _ h => h, ?_⟩
       refine n_1 41 s (by kernel_rfl) rfl rfl (l_quiet s rfl rfl (y_move s rfl) fun a s => ?_); refine ⟨fun g _ h => h, ?_⟩
       refine n_pass 42 s (by kernel_rfl) rfl ⟨_, _, _, rfl, rfl, rfl, rfl⟩ rfl rfl fun a s => ?_
       refine n_pass 43 s (by kernel_rfl) rfl ⟨_, _, _, rfl, rfl, rfl, rfl⟩ rfl rfl fun a s => ?_
       refine n_pass 44 s (by kernel_rfl) rfl ⟨_, _, _, rfl, rfl, rfl, rfl⟩ rfl rfl fun a s => ?_
       refine n_pass 45 s (by kernel_rfl) rfl ⟨_, _, _, rfl, rfl, rfl, rfl⟩ rfl rfl fun a s => ?_
       refine n_1 46 s (by kernel_rfl) rfl rfl (l_quiet s rfl rfl (y_pick_f s rfl rfl) fun a s => ?_); refine ⟨fun g _ h => h, ?_⟩
       refine n_1 47 s (by kernel_rfl) rfl rfl (l_quiet s rfl rfl (y_move s rfl) fun a s => ?_); refine ⟨fun g _ h => h, ?_⟩
       refine n_pass 48 s (by kernel_rfl) rfl ⟨_, _, _, rfl, rfl, rfl, rfl⟩ rfl rfl fun a s => ?_
       refine n_pass 49 s (by kernel_rfl) rfl ⟨_, _, _, rfl, rfl, rfl, rfl⟩ rfl rfl fun a s => ?_
       refine n_pass 50 s (by kernel_rfl) rfl ⟨_, _, _, rfl, rfl, rfl, rfl⟩ rfl rfl fun a s => ?_
       refine n_pass 51 s (by kernel_rfl) rfl ⟨_, _, _, rfl, rfl, rfl, rfl⟩ rfl rfl fun a s => ?_
       refine n_pass 52 s (by kernel_rfl) rfl ⟨_, _, _, rfl, rfl, rfl, rfl⟩ rfl rfl fun a s => ?_
       refine n_1 53 s (by kernel_rfl) rfl rfl (l_quiet s rfl rfl (y_pick_f s rfl rfl) fun a s => ?_); refine ⟨fun g _ h => h, ?_⟩
       refine n_1 54 s (by kernel_rfl) rfl rfl (l_quiet s rfl rfl (y_assign s rfl) fun a s => ?_); refine ⟨fun g _ h => h, ?_⟩
       refine n_end (by kernel_rfl) ?_; clear hR hZ hE
       apply pN
       apply wp_ret
       obtain rfl := Option.some.inj hg
       refine fin1 (fn := Tryz.f6) s rfl (r_tmp s rfl) ?_
       exact rfl
     have hs58e := decide_eq_false hs58
     replace hg := br_f hg hs58
     refine d_steps s [] rfl ?_; clear s; intro wr hZ s; have hR := s.wd; have hE := Ext.init hR 0
     refine n_q 0 0 s hR rfl (by kernel_rfl) (by kernel_rfl) (by kernel_rfl) rfl rfl rfl (y_move s rfl) fun a s => ?_
     refine n_q 1 0 s hR rfl (by kernel_rfl) (by kernel_rfl) (by kernel_rfl) rfl rfl rfl (yl_b (y_eql s rfl rfl) hs41e) fun a s => ?_
     refine n_q 2 0 s hR rfl (by kernel_rfl) (by kernel_rfl) (by kernel_rfl) rfl rfl rfl (y_move s rfl) fun a s => ?_
     refine n_q 3 1208 s hR rfl (by kernel_rfl) (by kernel_rfl) (by kernel_rfl) rfl ⟨_, _, _, rfl, rfl, rfl, rfl⟩ rfl (y_loadAll (kk := 1208) s rfl rfl underlying24 rfl rfl) fun a s => ?_
     refine n_q 4 0 s hR rfl (by kernel_rfl) (by kernel_rfl) (by kernel_rfl) rfl ⟨_, _, _, rfl, rfl, rfl, rfl⟩ rfl (y_build (parts := [(0, .const (vT ([97]))), (1, .const (vI (-1)))]) (ps := [(0, vT ([97])), (1, vI (-1))]) (cells := #[vT ([97]), vI (-1)]) s rfl (by kernel_rfl)) fun a s => ?_
     refine n_q 5 0 s hR rfl (by kernel_rfl) (by kernel_rfl) (by kernel_rfl) rfl ⟨_, _, _, rfl, rfl, rfl, rfl⟩ rfl (y_build (parts := [(0, .const (vT ([98]))), (1, .const (vI 1))]) (ps := [(0, vT ([98])), (1, vI 1)]) (cells := #[vT ([98]), vI 1]) s rfl (by kernel_rfl)) fun a s => ?_
     refine n_1 6 s (by kernel_rfl) rfl ⟨_, _, _, rfl, rfl, rfl, rfl⟩ (l_buildDense (sz := 2) s 1506 rfl rfl rfl underlying22 rfl rfl rfl rfl rfl rfl rfl fun b165 a w hbb165 hK s => ?_)
     have hNb165 := NewA.lit hZ hbb165
     clear hbb165
     replace hE := hE.grow hK; replace hZ := Nat.le_trans hZ hK.size; refine ⟨fun g _ h => h.grow hK, ?_⟩; clear hK
     replace s := s.add 150 (rdF RWeight (cellsOfL [.agg #[vT ([97]), vI (-1)], .agg #[vT ([98]), vI 1]]) ([(Weight.mk [97] (-1)), (Weight.mk [98] 1)])) (RdAll.cons (by exact (RWeight.mk' (x := (Weight.mk [97] (-1))) (by first | omega | (rw [List.length_append]; omega) | (simp only [List.length_append]; omega) | (simp only [List.length_append, List.length_take, List.length_drop, List.length_cons, List.length_nil]; omega) | exact smin_len (by omega) (by omega)))) (RdAll.cons (by exact (RWeight.mk' (x := (Weight.mk [98] 1)) (by first | omega | (rw [List.length_append]; omega) | (simp only [List.length_append]; omega) | (simp only [List.length_append, List.length_take, List.length_drop, List.length_cons, List.length_nil]; omega) | exact smin_len (by omega) (by omega)))) (RdAll.nil _ _ _)))
     replace s := s.freeze (R := RWeight) (kk := 1506) (L' := [(1208, Ob.box b21 [sl Au20a1 (r14.1.Weights) cu20a1] 24), (1304, Ob.box b35 [vI 2, vT ([110, 112]), vI 0, vI 2, .slice (some ⟨b34, 0, none⟩) (2) (2)] 42)]) 151 rfl rfl (s.ft 150 rfl) ⟨rfl, rfl, trivial⟩ rfl
     refine n_1 7 s (by kernel_rfl) rfl ⟨_, _, _, rfl, rfl, rfl, rfl⟩ (l_quiet s rfl rfl (y_build (parts := [(0, .tmp 29)]) (ps := [(0, .slice (some ⟨b165, 0, none⟩) (2) (2))]) (cells := #[.slice (some ⟨b165, 0, none⟩) (2) (2)]) s rfl (by kernel_rfl)) fun a s => ?_); refine ⟨fun g _ h => h, ?_⟩
     refine n_1 8 s (by kernel_rfl) rfl ⟨_, _, _, rfl, rfl, rfl, rfl⟩ (l_call (cap := []) s rfl func9 rfl (by kernel_rfl) rfl rfl (c_r37_Same n _ _ s.lt r14.1 (Au20a1) (cu20a1) (s.ft 114 rfl) (Model.mk [(Weight.mk [97] (-1)), (Weight.mk [98] 1)]) (some ⟨b165, 0, none⟩) (2) (s.ft 151 rfl) r43 hr43) fun v166 a w hK hp s => ?_)
     replace hE := hE.grow hK; replace hZ := Nat.le_trans hZ hK.size; refine ⟨fun g _ h => h.grow hK, ?_⟩; clear hK
     obtain rfl := hp.trans (congrArg Value.bool hs46)
     refine n_1 9 s (by kernel_rfl) rfl rfl (l_quiet s rfl rfl (y_pick_t s rfl rfl) fun a s => ?_); refine ⟨fun g _ h => h, ?_⟩
     refine n_1 10 s (by kernel_rfl) rfl rfl (l_quiet s rfl rfl (y_move s rfl) fun a s => ?_); refine ⟨fun g _ h => h, ?_⟩
     refine n_ql 12 s hE rfl (by kernel_rfl) (by kernel_rfl) (by kernel_rfl) rfl ⟨_, _, _, rfl, rfl, rfl, rfl⟩ rfl (fun w' s => y_move s rfl) fun a s => ?_
     refine n_1 11 s (by kernel_rfl) rfl ⟨_, _, _, rfl, rfl, rfl, rfl⟩ (l_quiet s rfl rfl (y_loadAll (kk := 1208) s rfl rfl underlying24 rfl rfl) fun a s => ?_); refine ⟨fun g _ h => h, ?_⟩
     refine n_1 13 s (by kernel_rfl) rfl ⟨_, _, _, rfl, rfl, rfl, rfl⟩ (l_call (cap := []) s rfl func14 rfl (by kernel_rfl) rfl rfl (c_model_Best n _ _ s.lt r14.1 (Au20a1) (cu20a1) (s.ft 114 rfl) [r1, r4] (some ⟨b12, 0, none⟩) (2) (s.ft 111 rfl) r47 hr47) fun v168 a w hK hp s => ?_)
     replace hE := hE.grow hK; replace hZ := Nat.le_trans hZ hK.size; refine ⟨fun g _ h => h.grow hK, ?_⟩; clear hK
     obtain rfl := hp
     refine n_1 14 s (by kernel_rfl) rfl ⟨_, _, _, rfl, rfl, rfl, rfl⟩ (l_quiet s rfl rfl (yl_b (y_eql s rfl rfl) hs50e) fun a s => ?_); refine ⟨fun g _ h => h, ?_⟩
     refine n_1 15 s (by kernel_rfl) rfl rfl (l_quiet s rfl rfl (y_pick_t s rfl rfl) fun a s => ?_); refine ⟨fun g _ h => h, ?_⟩
     refine n_1 16 s (by kernel_rfl) rfl rfl (l_quiet s rfl rfl (y_move s rfl) fun a s => ?_); refine ⟨fun g _ h => h, ?_⟩
     refine n_ql 18 s hE rfl (by kernel_rfl) (by kernel_rfl) (by kernel_rfl) rfl ⟨_, _, _, rfl, rfl, rfl, rfl⟩ rfl (fun w' s => y_move s rfl) fun a s => ?_
     obtain ⟨p170, hep170, hpp170⟩ := SlR.elemX (s.ft 111 rfl) hx52
     refine n_ql 19 s hE rfl (by kernel_rfl) (by kernel_rfl) (by kernel_rfl) rfl ⟨_, _, _, rfl, rfl, rfl, rfl⟩ rfl (fun w' s => y_elem (sz := 5) (i := 1) s rfl rfl underlying35 rfl hep170 rfl (lt_of_get hx52)) fun a s => ?_
     refine n_2 17 20 s (by kernel_rfl) rfl ⟨_, _, _, rfl, rfl, rfl, rfl⟩ rfl ⟨_, _, _, rfl, rfl, rfl, rfl⟩ ?_ ?_
     ·refine l_quiet s rfl rfl (y_loadAll (kk := 1208) s rfl rfl underlying24 rfl rfl) fun a s => ?_; refine ⟨fun g _ h => h, ?_⟩
      obtain ⟨hlq171, hmq171, csq171, hdq171, hcq171⟩ := (SlR.again (s.ft 111 rfl) hx52 hep170)
      obtain ⟨Aq1715, cq1715, rfl, lq1712, hq1715⟩ := RDeriv.open hdq171
      replace s := s.ns 152 hq1715
      refine n_1 20 s (by kernel_rfl) rfl ⟨_, _, _, rfl, rfl, rfl, rfl⟩ (l_quiet s rfl rfl (y_ldp s rfl hlq171 hmq171 (by simpa using hcq171) underlying42 rfl rfl) fun a s => ?_); refine ⟨fun g _ h => h, ?_⟩
      refine n_1 21 s (by kernel_rfl) rfl ⟨_, _, _, rfl, rfl, rfl, rfl⟩ (l_call (cap := []) s rfl func15 rfl (by kernel_rfl) rfl rfl (c_model_Score n _ _ s.lt r14.1 (Au20a1) (cu20a1) (s.ft 114 rfl) x52 (Aq1715) (cq1715) (by omega) (s.ft 152 rfl) r54 hr54) fun v172 a w hK hp s => ?_)
      replace hE := hE.grow hK; replace hZ := Nat.le_trans hZ hK.size; refine ⟨fun g _ h => h.grow hK, ?_⟩; clear hK
      obtain rfl := hp
      refine n_1 22 s (by kernel_rfl) rfl ⟨_, _, _, rfl, rfl, rfl, rfl⟩ (l_quiet s rfl rfl (yl_b (y_eql s rfl rfl) hs57e) fun a s => ?_); refine ⟨fun g _ h => h, ?_⟩
      refine n_1 23 s (by kernel_rfl) rfl rfl (l_quiet s rfl rfl (y_pick_t s rfl rfl) fun a s => ?_); refine ⟨fun g _ h => h, ?_⟩
      refine n_1 24 s (by kernel_rfl) rfl rfl (l_quiet s rfl rfl (y_move s rfl) fun a s => ?_); refine ⟨fun g _ h => h, ?_⟩
      refine n_1 25 s (by kernel_rfl) rfl ⟨_, _, _, rfl, rfl, rfl, rfl⟩ (l_quiet s rfl rfl (y_move s rfl) fun a s => ?_); refine ⟨fun g _ h => h, ?_⟩
      refine n_1 26 s (by kernel_rfl) rfl ⟨_, _, _, rfl, rfl, rfl, rfl⟩ (l_quiet s rfl rfl (y_lenSlice s rfl underlying44) fun a s => ?_); refine ⟨fun g _ h => h, ?_⟩
      refine n_1 27 s (by kernel_rfl) rfl ⟨_, _, _, rfl, rfl, rfl, rfl⟩ (l_quiet s rfl rfl (yl_b (y_eqlN (i := ((r36).length)) (j := 4) s rfl rfl) hs58e) fun a s => ?_); refine ⟨fun g _ h => h, ?_⟩
      refine n_1 28 s (by kernel_rfl) rfl rfl (l_quiet s rfl rfl (y_pick_t s rfl rfl) fun a s => ?_); refine ⟨fun g _ h => h, ?_⟩
      refine n_1 29 s (by kernel_rfl) rfl rfl (l_quiet s rfl rfl (y_move s rfl) fun a s => ?_); refine ⟨fun g _ h => h, ?_⟩
      refine n_pass 30 s (by kernel_rfl) rfl ⟨_, _, _, rfl, rfl, rfl, rfl⟩ rfl rfl fun a s => ?_
      refine n_pass 31 s (by kernel_rfl) rfl ⟨_, _, _, rfl, rfl, rfl, rfl⟩ rfl rfl fun a s => ?_
      refine n_pass 32 s (by kernel_rfl) rfl ⟨_, _, _, rfl, rfl, rfl, rfl⟩ rfl rfl fun a s => ?_
      refine n_pass 33 s (by kernel_rfl) rfl ⟨_, _, _, rfl, rfl, rfl, rfl⟩ rfl rfl fun a s => ?_
      refine n_1 34 s (by kernel_rfl) rfl rfl (l_quiet s rfl rfl (y_pick_f s rfl rfl) fun a s => ?_); refine ⟨fun g _ h => h, ?_⟩
      refine n_1 35 s (by kernel_rfl) rfl rfl (l_quiet s rfl rfl (y_move s rfl) fun a s => ?_); refine ⟨fun g _ h => h, ?_⟩
      refine n_pass 36 s (by kernel_rfl) rfl ⟨_, _, _, rfl, rfl, rfl, rfl⟩ rfl rfl fun a s => ?_
      refine n_pass 37 s (by kernel_rfl) rfl ⟨_, _, _, rfl, rfl, rfl, rfl⟩ rfl rfl fun a s => ?_
      refine n_pass 38 s (by kernel_rfl) rfl ⟨_, _, _, rfl, rfl, rfl, rfl⟩ rfl rfl fun a s => ?_
      refine n_pass 39 s (by kernel_rfl) rfl ⟨_, _, _, rfl, rfl, rfl, rfl⟩ rfl rfl fun a s => ?_
      refine n_1 40 s (by kernel_rfl) rfl rfl (l_quiet s rfl rfl (y_pick_f s rfl rfl) fun a s => ?_); refine ⟨fun g _ h => h, ?_⟩
      refine n_1 41 s (by kernel_rfl) rfl rfl (l_quiet s rfl rfl (y_move s rfl) fun a s => ?_); refine ⟨fun g _ h => h, ?_⟩
      refine n_pass 42 s (by kernel_rfl) rfl ⟨_, _, _, rfl, rfl, rfl, rfl⟩ rfl rfl fun a s => ?_
      refine n_pass 43 s (by kernel_rfl) rfl ⟨_, _, _, rfl, rfl, rfl, rfl⟩ rfl rfl fun a s => ?_
      refine n_pass 44 s (by kernel_rfl) rfl ⟨_, _, _, rfl, rfl, rfl, rfl⟩ rfl rfl fun a s => ?_
      refine n_pass 45 s (by kernel_rfl) rfl ⟨_, _, _, rfl, rfl, rfl, rfl⟩ rfl rfl fun a s => ?_
      refine n_1 46 s (by kernel_rfl) rfl rfl (l_quiet s rfl rfl (y_pick_f s rfl rfl) fun a s => ?_); refine ⟨fun g _ h => h, ?_⟩
      refine n_1 47 s (by kernel_rfl) rfl rfl (l_quiet s rfl rfl (y_move s rfl) fun a s => ?_); refine ⟨fun g _ h => h, ?_⟩
      refine n_pass 48 s (by kernel_rfl) rfl ⟨_, _, _, rfl, rfl, rfl, rfl⟩ rfl rfl fun a s => ?_
      refine n_pass 49 s (by kernel_rfl) rfl ⟨_, _, _, rfl, rfl, rfl, rfl⟩ rfl rfl fun a s => ?_
      refine n_pass 50 s (by kernel_rfl) rfl ⟨_, _, _, rfl, rfl, rfl, rfl⟩ rfl rfl fun a s => ?_
      refine n_pass 51 s (by kernel_rfl) rfl ⟨_, _, _, rfl, rfl, rfl, rfl⟩ rfl rfl fun a s => ?_
      refine n_pass 52 s (by kernel_rfl) rfl ⟨_, _, _, rfl, rfl, rfl, rfl⟩ rfl rfl fun a s => ?_
      refine n_1 53 s (by kernel_rfl) rfl rfl (l_quiet s rfl rfl (y_pick_f s rfl rfl) fun a s => ?_); refine ⟨fun g _ h => h, ?_⟩
      refine n_1 54 s (by kernel_rfl) rfl rfl (l_quiet s rfl rfl (y_assign s rfl) fun a s => ?_); refine ⟨fun g _ h => h, ?_⟩
      refine n_end (by kernel_rfl) ?_; clear hR hZ hE
      apply pN
      apply wp_ret
      obtain rfl := Option.some.inj hg
      refine fin1 (fn := Tryz.f6) s rfl (r_tmp s rfl) ?_
      exact rfl
     ·obtain ⟨hlq174, hmq174, csq174, hdq174, hcq174⟩ := (SlR.again (s.ft 111 rfl) hx52 hep170)
      obtain ⟨Aq1745, cq1745, rfl, lq1742, hq1745⟩ := RDeriv.open hdq174
      replace s := s.ns 153 hq1745
      refine l_quiet s rfl rfl (y_ldp s rfl hlq174 hmq174 (by simpa using hcq174) underlying42 rfl rfl) fun a s => ?_; refine ⟨fun g _ h => h, ?_⟩
      refine n_1 17 s (by kernel_rfl) rfl ⟨_, _, _, rfl, rfl, rfl, rfl⟩ (l_quiet s rfl rfl (y_loadAll (kk := 1208) s rfl rfl underlying24 rfl rfl) fun a s => ?_); refine ⟨fun g _ h => h, ?_⟩
      refine n_1 21 s (by kernel_rfl) rfl ⟨_, _, _, rfl, rfl, rfl, rfl⟩ (l_call (cap := []) s rfl func15 rfl (by kernel_rfl) rfl rfl (c_model_Score n _ _ s.lt r14.1 (Au20a1) (cu20a1) (s.ft 114 rfl) x52 (Aq1745) (cq1745) (by omega) (s.ft 153 rfl) r54 hr54) fun v175 a w hK hp s => ?_)
      replace hE := hE.grow hK; replace hZ := Nat.le_trans hZ hK.size; refine ⟨fun g _ h => h.grow hK, ?_⟩; clear hK
      obtain rfl := hp
      refine n_1 22 s (by kernel_rfl) rfl ⟨_, _, _, rfl, rfl, rfl, rfl⟩ (l_quiet s rfl rfl (yl_b (y_eql s rfl rfl) hs57e) fun a s => ?_); refine ⟨fun g _ h => h, ?_⟩
      refine n_1 23 s (by kernel_rfl) rfl rfl (l_quiet s rfl rfl (y_pick_t s rfl rfl) fun a s => ?_); refine ⟨fun g _ h => h, ?_⟩
      refine n_1 24 s (by kernel_rfl) rfl rfl (l_quiet s rfl rfl (y_move s rfl) fun a s => ?_); refine ⟨fun g _ h => h, ?_⟩
      refine n_1 25 s (by kernel_rfl) rfl ⟨_, _, _, rfl, rfl, rfl, rfl⟩ (l_quiet s rfl rfl (y_move s rfl) fun a s => ?_); refine ⟨fun g _ h => h, ?_⟩
      refine n_1 26 s (by kernel_rfl) rfl ⟨_, _, _, rfl, rfl, rfl, rfl⟩ (l_quiet s rfl rfl (y_lenSlice s rfl underlying44) fun a s => ?_); refine ⟨fun g _ h => h, ?_⟩
      refine n_1 27 s (by kernel_rfl) rfl ⟨_, _, _, rfl, rfl, rfl, rfl⟩ (l_quiet s rfl rfl (yl_b (y_eqlN (i := ((r36).length)) (j := 4) s rfl rfl) hs58e) fun a s => ?_); refine ⟨fun g _ h => h, ?_⟩
      refine n_1 28 s (by kernel_rfl) rfl rfl (l_quiet s rfl rfl (y_pick_t s rfl rfl) fun a s => ?_); refine ⟨fun g _ h => h, ?_⟩
      refine n_1 29 s (by kernel_rfl) rfl rfl (l_quiet s rfl rfl (y_move s rfl) fun a s => ?_); refine ⟨fun g _ h => h, ?_⟩
      refine n_pass 30 s (by kernel_rfl) rfl ⟨_, _, _, rfl, rfl, rfl, rfl⟩ rfl rfl fun a s => ?_
      refine n_pass 31 s (by kernel_rfl) rfl ⟨_, _, _, rfl, rfl, rfl, rfl⟩ rfl rfl fun a s => ?_
      refine n_pass 32 s (by kernel_rfl) rfl ⟨_, _, _, rfl, rfl, rfl, rfl⟩ rfl rfl fun a s => ?_
      refine n_pass 33 s (by kernel_rfl) rfl ⟨_, _, _, rfl, rfl, rfl, rfl⟩ rfl rfl fun a s => ?_
      refine n_1 34 s (by kernel_rfl) rfl rfl (l_quiet s rfl rfl (y_pick_f s rfl rfl) fun a s => ?_); refine ⟨fun g _ h => h, ?_⟩
      refine n_1 35 s (by kernel_rfl) rfl rfl (l_quiet s rfl rfl (y_move s rfl) fun a s => ?_); refine ⟨fun g _ h => h, ?_⟩
      refine n_pass 36 s (by kernel_rfl) rfl ⟨_, _, _, rfl, rfl, rfl, rfl⟩ rfl rfl fun a s => ?_
      refine n_pass 37 s (by kernel_rfl) rfl ⟨_, _, _, rfl, rfl, rfl, rfl⟩ rfl rfl fun a s => ?_
      refine n_pass 38 s (by kernel_rfl) rfl ⟨_, _, _, rfl, rfl, rfl, rfl⟩ rfl rfl fun a s => ?_
      refine n_pass 39 s (by kernel_rfl) rfl ⟨_, _, _, rfl, rfl, rfl, rfl⟩ rfl rfl fun a s => ?_
      refine n_1 40 s (by kernel_rfl) rfl rfl (l_quiet s rfl rfl (y_pick_f s rfl rfl) fun a s => ?_); refine ⟨fun g _ h => h, ?_⟩
      refine n_1 41 s (by kernel_rfl) rfl rfl (l_quiet s rfl rfl (y_move s rfl) fun a s => ?_); refine ⟨fun g _ h => h, ?_⟩
      refine n_pass 42 s (by kernel_rfl) rfl ⟨_, _, _, rfl, rfl, rfl, rfl⟩ rfl rfl fun a s => ?_
      refine n_pass 43 s (by kernel_rfl) rfl ⟨_, _, _, rfl, rfl, rfl, rfl⟩ rfl rfl fun a s => ?_
      refine n_pass 44 s (by kernel_rfl) rfl ⟨_, _, _, rfl, rfl, rfl, rfl⟩ rfl rfl fun a s => ?_
      refine n_pass 45 s (by kernel_rfl) rfl ⟨_, _, _, rfl, rfl, rfl, rfl⟩ rfl rfl fun a s => ?_
      refine n_1 46 s (by kernel_rfl) rfl rfl (l_quiet s rfl rfl (y_pick_f s rfl rfl) fun a s => ?_); refine ⟨fun g _ h => h, ?_⟩
      refine n_1 47 s (by kernel_rfl) rfl rfl (l_quiet s rfl rfl (y_move s rfl) fun a s => ?_); refine ⟨fun g _ h => h, ?_⟩
      refine n_pass 48 s (by kernel_rfl) rfl ⟨_, _, _, rfl, rfl, rfl, rfl⟩ rfl rfl fun a s => ?_
      refine n_pass 49 s (by kernel_rfl) rfl ⟨_, _, _, rfl, rfl, rfl, rfl⟩ rfl rfl fun a s => ?_
      refine n_pass 50 s (by kernel_rfl) rfl ⟨_, _, _, rfl, rfl, rfl, rfl⟩ rfl rfl fun a s => ?_
      refine n_pass 51 s (by kernel_rfl) rfl ⟨_, _, _, rfl, rfl, rfl, rfl⟩ rfl rfl fun a s => ?_
      refine n_pass 52 s (by kernel_rfl) rfl ⟨_, _, _, rfl, rfl, rfl, rfl⟩ rfl rfl fun a s => ?_
      refine n_1 53 s (by kernel_rfl) rfl rfl (l_quiet s rfl rfl (y_pick_f s rfl rfl) fun a s => ?_); refine ⟨fun g _ h => h, ?_⟩
      refine n_1 54 s (by kernel_rfl) rfl rfl (l_quiet s rfl rfl (y_assign s rfl) fun a s => ?_); refine ⟨fun g _ h => h, ?_⟩
      refine n_end (by kernel_rfl) ?_; clear hR hZ hE
      apply pN
      apply wp_ret
      obtain rfl := Option.some.inj hg
      refine fin1 (fn := Tryz.f6) s rfl (r_tmp s rfl) ?_
      exact rfl
    have hs57e := decide_eq_false hs57
    replace hg := br_f hg hs57
    refine d_steps s [] rfl ?_; clear s; intro wr hZ s; have hR := s.wd; have hE := Ext.init hR 0
    refine n_q 0 0 s hR rfl (by kernel_rfl) (by kernel_rfl) (by kernel_rfl) rfl rfl rfl (y_move s rfl) fun a s => ?_
    refine n_q 1 0 s hR rfl (by kernel_rfl) (by kernel_rfl) (by kernel_rfl) rfl rfl rfl (yl_b (y_eql s rfl rfl) hs41e) fun a s => ?_
    refine n_q 2 0 s hR rfl (by kernel_rfl) (by kernel_rfl) (by kernel_rfl) rfl rfl rfl (y_move s rfl) fun a s => ?_
    refine n_q 3 1208 s hR rfl (by kernel_rfl) (by kernel_rfl) (by kernel_rfl) rfl ⟨_, _, _, rfl, rfl, rfl, rfl⟩ rfl (y_loadAll (kk := 1208) s rfl rfl underlying24 rfl rfl) fun a s => ?_
    refine n_q 4 0 s hR rfl (by kernel_rfl) (by kernel_rfl) (by kernel_rfl) rfl ⟨_, _, _, rfl, rfl, rfl, rfl⟩ rfl (y_build (parts := [(0, .const (vT ([97]))), (1, .const (vI (-1)))]) (ps := [(0, vT ([97])), (1, vI (-1))]) (cells := #[vT ([97]), vI (-1)]) s rfl (by kernel_rfl)) fun a s => ?_
    refine n_q 5 0 s hR rfl (by kernel_rfl) (by kernel_rfl) (by kernel_rfl) rfl ⟨_, _, _, rfl, rfl, rfl, rfl⟩ rfl (y_build (parts := [(0, .const (vT ([98]))), (1, .const (vI 1))]) (ps := [(0, vT ([98])), (1, vI 1)]) (cells := #[vT ([98]), vI 1]) s rfl (by kernel_rfl)) fun a s => ?_
    refine n_1 6 s (by kernel_rfl) rfl ⟨_, _, _, rfl, rfl, rfl, rfl⟩ (l_buildDense (sz := 2) s 1506 rfl rfl rfl underlying22 rfl rfl rfl rfl rfl rfl rfl fun b177 a w hbb177 hK s => ?_)
    have hNb177 := NewA.lit hZ hbb177
    clear hbb177
    replace hE := hE.grow hK; replace hZ := Nat.le_trans hZ hK.size; refine ⟨fun g _ h => h.grow hK, ?_⟩; clear hK
    replace s := s.add 154 (rdF RWeight (cellsOfL [.agg #[vT ([97]), vI (-1)], .agg #[vT ([98]), vI 1]]) ([(Weight.mk [97] (-1)), (Weight.mk [98] 1)])) (RdAll.cons (by exact (RWeight.mk' (x := (Weight.mk [97] (-1))) (by first | omega | (rw [List.length_append]; omega) | (simp only [List.length_append]; omega) | (simp only [List.length_append, List.length_take, List.length_drop, List.length_cons, List.length_nil]; omega) | exact smin_len (by omega) (by omega)))) (RdAll.cons (by exact (RWeight.mk' (x := (Weight.mk [98] 1)) (by first | omega | (rw [List.length_append]; omega) | (simp only [List.length_append]; omega) | (simp only [List.length_append, List.length_take, List.length_drop, List.length_cons, List.length_nil]; omega) | exact smin_len (by omega) (by omega)))) (RdAll.nil _ _ _)))
    replace s := s.freeze (R := RWeight) (kk := 1506) (L' := [(1208, Ob.box b21 [sl Au20a1 (r14.1.Weights) cu20a1] 24), (1304, Ob.box b35 [vI 2, vT ([110, 112]), vI 0, vI 2, .slice (some ⟨b34, 0, none⟩) (2) (2)] 42)]) 155 rfl rfl (s.ft 154 rfl) ⟨rfl, rfl, trivial⟩ rfl
    refine n_1 7 s (by kernel_rfl) rfl ⟨_, _, _, rfl, rfl, rfl, rfl⟩ (l_quiet s rfl rfl (y_build (parts := [(0, .tmp 29)]) (ps := [(0, .slice (some ⟨b177, 0, none⟩) (2) (2))]) (cells := #[.slice (some ⟨b177, 0, none⟩) (2) (2)]) s rfl (by kernel_rfl)) fun a s => ?_); refine ⟨fun g _ h => h, ?_⟩
    refine n_1 8 s (by kernel_rfl) rfl ⟨_, _, _, rfl, rfl, rfl, rfl⟩ (l_call (cap := []) s rfl func9 rfl (by kernel_rfl) rfl rfl (c_r37_Same n _ _ s.lt r14.1 (Au20a1) (cu20a1) (s.ft 114 rfl) (Model.mk [(Weight.mk [97] (-1)), (Weight.mk [98] 1)]) (some ⟨b177, 0, none⟩) (2) (s.ft 155 rfl) r43 hr43) fun v178 a w hK hp s => ?_)
    replace hE := hE.grow hK; replace hZ := Nat.le_trans hZ hK.size; refine ⟨fun g _ h => h.grow hK, ?_⟩; clear hK
    obtain rfl := hp.trans (congrArg Value.bool hs46)
    refine n_1 9 s (by kernel_rfl) rfl rfl (l_quiet s rfl rfl (y_pick_t s rfl rfl) fun a s => ?_); refine ⟨fun g _ h => h, ?_⟩
    refine n_1 10 s (by kernel_rfl) rfl rfl (l_quiet s rfl rfl (y_move s rfl) fun a s => ?_); refine ⟨fun g _ h => h, ?_⟩
    refine n_ql 12 s hE rfl (by kernel_rfl) (by kernel_rfl) (by kernel_rfl) rfl ⟨_, _, _, rfl, rfl, rfl, rfl⟩ rfl (fun w' s => y_move s rfl) fun a s => ?_
    refine n_1 11 s (by kernel_rfl) rfl ⟨_, _, _, rfl, rfl, rfl, rfl⟩ (l_quiet s rfl rfl (y_loadAll (kk := 1208) s rfl rfl underlying24 rfl rfl) fun a s => ?_); refine ⟨fun g _ h => h, ?_⟩
    refine n_1 13 s (by kernel_rfl) rfl ⟨_, _, _, rfl, rfl, rfl, rfl⟩ (l_call (cap := []) s rfl func14 rfl (by kernel_rfl) rfl rfl (c_model_Best n _ _ s.lt r14.1 (Au20a1) (cu20a1) (s.ft 114 rfl) [r1, r4] (some ⟨b12, 0, none⟩) (2) (s.ft 111 rfl) r47 hr47) fun v180 a w hK hp s => ?_)
    replace hE := hE.grow hK; replace hZ := Nat.le_trans hZ hK.size; refine ⟨fun g _ h => h.grow hK, ?_⟩; clear hK
    obtain rfl := hp
    refine n_1 14 s (by kernel_rfl) rfl ⟨_, _, _, rfl, rfl, rfl, rfl⟩ (l_quiet s rfl rfl (yl_b (y_eql s rfl rfl) hs50e) fun a s => ?_); refine ⟨fun g _ h => h, ?_⟩
    refine n_1 15 s (by kernel_rfl) rfl rfl (l_quiet s rfl rfl (y_pick_t s rfl rfl) fun a s => ?_); refine ⟨fun g _ h => h, ?_⟩
    refine n_1 16 s (by kernel_rfl) rfl rfl (l_quiet s rfl rfl (y_move s rfl) fun a s => ?_); refine ⟨fun g _ h => h, ?_⟩
    refine n_ql 18 s hE rfl (by kernel_rfl) (by kernel_rfl) (by kernel_rfl) rfl ⟨_, _, _, rfl, rfl, rfl, rfl⟩ rfl (fun w' s => y_move s rfl) fun a s => ?_
    obtain ⟨p182, hep182, hpp182⟩ := SlR.elemX (s.ft 111 rfl) hx52
    refine n_ql 19 s hE rfl (by kernel_rfl) (by kernel_rfl) (by kernel_rfl) rfl ⟨_, _, _, rfl, rfl, rfl, rfl⟩ rfl (fun w' s => y_elem (sz := 5) (i := 1) s rfl rfl underlying35 rfl hep182 rfl (lt_of_get hx52)) fun a s => ?_
    refine n_2 17 20 s (by kernel_rfl) rfl ⟨_, _, _, rfl, rfl, rfl, rfl⟩ rfl ⟨_, _, _, rfl, rfl, rfl, rfl⟩ ?_ ?_
    ·refine l_quiet s rfl rfl (y_loadAll (kk := 1208) s rfl rfl underlying24 rfl rfl) fun a s => ?_; refine ⟨fun g _ h => h, ?_⟩
     obtain ⟨hlq183, hmq183, csq183, hdq183, hcq183⟩ := (SlR.again (s.ft 111 rfl) hx52 hep182)
     obtain ⟨Aq1835, cq1835, rfl, lq1832, hq1835⟩ := RDeriv.open hdq183
     replace s := s.ns 156 hq1835
     refine n_1 20 s (by kernel_rfl) rfl ⟨_, _, _, rfl, rfl, rfl, rfl⟩ (l_quiet s rfl rfl (y_ldp s rfl hlq183 hmq183 (by simpa using hcq183) underlying42 rfl rfl) fun a s => ?_); refine ⟨fun g _ h => h, ?_⟩
     refine n_1 21 s (by kernel_rfl) rfl ⟨_, _, _, rfl, rfl, rfl, rfl⟩ (l_call (cap := []) s rfl func15 rfl (by kernel_rfl) rfl rfl (c_model_Score n _ _ s.lt r14.1 (Au20a1) (cu20a1) (s.ft 114 rfl) x52 (Aq1835) (cq1835) (by omega) (s.ft 156 rfl) r54 hr54) fun v184 a w hK hp s => ?_)
     replace hE := hE.grow hK; replace hZ := Nat.le_trans hZ hK.size; refine ⟨fun g _ h => h.grow hK, ?_⟩; clear hK
     obtain rfl := hp
     refine n_1 22 s (by kernel_rfl) rfl ⟨_, _, _, rfl, rfl, rfl, rfl⟩ (l_quiet s rfl rfl (yl_b (y_eql s rfl rfl) hs57e) fun a s => ?_); refine ⟨fun g _ h => h, ?_⟩
     refine n_1 23 s (by kernel_rfl) rfl rfl (l_quiet s rfl rfl (y_pick_t s rfl rfl) fun a s => ?_); refine ⟨fun g _ h => h, ?_⟩
     refine n_1 24 s (by kernel_rfl) rfl rfl (l_quiet s rfl rfl (y_move s rfl) fun a s => ?_); refine ⟨fun g _ h => h, ?_⟩
     refine n_pass 25 s (by kernel_rfl) rfl ⟨_, _, _, rfl, rfl, rfl, rfl⟩ rfl rfl fun a s => ?_
     refine n_pass 26 s (by kernel_rfl) rfl ⟨_, _, _, rfl, rfl, rfl, rfl⟩ rfl rfl fun a s => ?_
     refine n_pass 27 s (by kernel_rfl) rfl ⟨_, _, _, rfl, rfl, rfl, rfl⟩ rfl rfl fun a s => ?_
     refine n_1 28 s (by kernel_rfl) rfl rfl (l_quiet s rfl rfl (y_pick_f s rfl rfl) fun a s => ?_); refine ⟨fun g _ h => h, ?_⟩
     refine n_1 29 s (by kernel_rfl) rfl rfl (l_quiet s rfl rfl (y_move s rfl) fun a s => ?_); refine ⟨fun g _ h => h, ?_⟩
     refine n_pass 30 s (by kernel_rfl) rfl ⟨_, _, _, rfl, rfl, rfl, rfl⟩ rfl rfl fun a s => ?_
     refine n_pass 31 s (by kernel_rfl) rfl ⟨_, _, _, rfl, rfl, rfl, rfl⟩ rfl rfl fun a s => ?_
     refine n_pass 32 s (by kernel_rfl) rfl ⟨_, _, _, rfl, rfl, rfl, rfl⟩ rfl rfl fun a s => ?_
     refine n_pass 33 s (by kernel_rfl) rfl ⟨_, _, _, rfl, rfl, rfl, rfl⟩ rfl rfl fun a s => ?_
     refine n_1 34 s (by kernel_rfl) rfl rfl (l_quiet s rfl rfl (y_pick_f s rfl rfl) fun a s => ?_); refine ⟨fun g _ h => h, ?_⟩
     refine n_1 35 s (by kernel_rfl) rfl rfl (l_quiet s rfl rfl (y_move s rfl) fun a s => ?_); refine ⟨fun g _ h => h, ?_⟩
     refine n_pass 36 s (by kernel_rfl) rfl ⟨_, _, _, rfl, rfl, rfl, rfl⟩ rfl rfl fun a s => ?_
     refine n_pass 37 s (by kernel_rfl) rfl ⟨_, _, _, rfl, rfl, rfl, rfl⟩ rfl rfl fun a s => ?_
     refine n_pass 38 s (by kernel_rfl) rfl ⟨_, _, _, rfl, rfl, rfl, rfl⟩ rfl rfl fun a s => ?_
     refine n_pass 39 s (by kernel_rfl) rfl ⟨_, _, _, rfl, rfl, rfl, rfl⟩ rfl rfl fun a s => ?_
     refine n_1 40 s (by kernel_rfl) rfl rfl (l_quiet s rfl rfl (y_pick_f s rfl rfl) fun a s => ?_); refine ⟨fun g _ h => h, ?_⟩
     refine n_1 41 s (by kernel_rfl) rfl rfl (l_quiet s rfl rfl (y_move s rfl) fun a s => ?_); refine ⟨fun g _ h => h, ?_⟩
     refine n_pass 42 s (by kernel_rfl) rfl ⟨_, _, _, rfl, rfl, rfl, rfl⟩ rfl rfl fun a s => ?_
     refine n_pass 43 s (by kernel_rfl) rfl ⟨_, _, _, rfl, rfl, rfl, rfl⟩ rfl rfl fun a s => ?_
     refine n_pass 44 s (by kernel_rfl) rfl ⟨_, _, _, rfl, rfl, rfl, rfl⟩ rfl rfl fun a s => ?_
     refine n_pass 45 s (by kernel_rfl) rfl ⟨_, _, _, rfl, rfl, rfl, rfl⟩ rfl rfl fun a s => ?_
     refine n_1 46 s (by kernel_rfl) rfl rfl (l_quiet s rfl rfl (y_pick_f s rfl rfl) fun a s => ?_); refine ⟨fun g _ h => h, ?_⟩
     refine n_1 47 s (by kernel_rfl) rfl rfl (l_quiet s rfl rfl (y_move s rfl) fun a s => ?_); refine ⟨fun g _ h => h, ?_⟩
     refine n_pass 48 s (by kernel_rfl) rfl ⟨_, _, _, rfl, rfl, rfl, rfl⟩ rfl rfl fun a s => ?_
     refine n_pass 49 s (by kernel_rfl) rfl ⟨_, _, _, rfl, rfl, rfl, rfl⟩ rfl rfl fun a s => ?_
     refine n_pass 50 s (by kernel_rfl) rfl ⟨_, _, _, rfl, rfl, rfl, rfl⟩ rfl rfl fun a s => ?_
     refine n_pass 51 s (by kernel_rfl) rfl ⟨_, _, _, rfl, rfl, rfl, rfl⟩ rfl rfl fun a s => ?_
     refine n_pass 52 s (by kernel_rfl) rfl ⟨_, _, _, rfl, rfl, rfl, rfl⟩ rfl rfl fun a s => ?_
     refine n_1 53 s (by kernel_rfl) rfl rfl (l_quiet s rfl rfl (y_pick_f s rfl rfl) fun a s => ?_); refine ⟨fun g _ h => h, ?_⟩
     refine n_1 54 s (by kernel_rfl) rfl rfl (l_quiet s rfl rfl (y_assign s rfl) fun a s => ?_); refine ⟨fun g _ h => h, ?_⟩
     refine n_end (by kernel_rfl) ?_; clear hR hZ hE
     apply pN
     apply wp_ret
     obtain rfl := Option.some.inj hg
     refine fin1 (fn := Tryz.f6) s rfl (r_tmp s rfl) ?_
     exact rfl
    ·obtain ⟨hlq186, hmq186, csq186, hdq186, hcq186⟩ := (SlR.again (s.ft 111 rfl) hx52 hep182)
     obtain ⟨Aq1865, cq1865, rfl, lq1862, hq1865⟩ := RDeriv.open hdq186
     replace s := s.ns 157 hq1865
     refine l_quiet s rfl rfl (y_ldp s rfl hlq186 hmq186 (by simpa using hcq186) underlying42 rfl rfl) fun a s => ?_; refine ⟨fun g _ h => h, ?_⟩
     refine n_1 17 s (by kernel_rfl) rfl ⟨_, _, _, rfl, rfl, rfl, rfl⟩ (l_quiet s rfl rfl (y_loadAll (kk := 1208) s rfl rfl underlying24 rfl rfl) fun a s => ?_); refine ⟨fun g _ h => h, ?_⟩
     refine n_1 21 s (by kernel_rfl) rfl ⟨_, _, _, rfl, rfl, rfl, rfl⟩ (l_call (cap := []) s rfl func15 rfl (by kernel_rfl) rfl rfl (c_model_Score n _ _ s.lt r14.1 (Au20a1) (cu20a1) (s.ft 114 rfl) x52 (Aq1865) (cq1865) (by omega) (s.ft 157 rfl) r54 hr54) fun v187 a w hK hp s => ?_)
     replace hE := hE.grow hK; replace hZ := Nat.le_trans hZ hK.size; refine ⟨fun g _ h => h.grow hK, ?_⟩; clear hK
     obtain rfl := hp
     refine n_1 22 s (by kernel_rfl) rfl ⟨_, _, _, rfl, rfl, rfl, rfl⟩ (l_quiet s rfl rfl (yl_b (y_eql s rfl rfl) hs57e) fun a s => ?_); refine ⟨fun g _ h => h, ?_⟩
     refine n_1 23 s (by kernel_rfl) rfl rfl (l_quiet s rfl rfl (y_pick_t s rfl rfl) fun a s => ?_); refine ⟨fun g _ h => h, ?_⟩
     refine n_1 24 s (by kernel_rfl) rfl rfl (l_quiet s rfl rfl (y_move s rfl) fun a s => ?_); refine ⟨fun g _ h => h, ?_⟩
     refine n_pass 25 s (by kernel_rfl) rfl ⟨_, _, _, rfl, rfl, rfl, rfl⟩ rfl rfl fun a s => ?_
     refine n_pass 26 s (by kernel_rfl) rfl ⟨_, _, _, rfl, rfl, rfl, rfl⟩ rfl rfl fun a s => ?_
     refine n_pass 27 s (by kernel_rfl) rfl ⟨_, _, _, rfl, rfl, rfl, rfl⟩ rfl rfl fun a s => ?_
     refine n_1 28 s (by kernel_rfl) rfl rfl (l_quiet s rfl rfl (y_pick_f s rfl rfl) fun a s => ?_); refine ⟨fun g _ h => h, ?_⟩
     refine n_1 29 s (by kernel_rfl) rfl rfl (l_quiet s rfl rfl (y_move s rfl) fun a s => ?_); refine ⟨fun g _ h => h, ?_⟩
     refine n_pass 30 s (by kernel_rfl) rfl ⟨_, _, _, rfl, rfl, rfl, rfl⟩ rfl rfl fun a s => ?_
     refine n_pass 31 s (by kernel_rfl) rfl ⟨_, _, _, rfl, rfl, rfl, rfl⟩ rfl rfl fun a s => ?_
     refine n_pass 32 s (by kernel_rfl) rfl ⟨_, _, _, rfl, rfl, rfl, rfl⟩ rfl rfl fun a s => ?_
     refine n_pass 33 s (by kernel_rfl) rfl ⟨_, _, _, rfl, rfl, rfl, rfl⟩ rfl rfl fun a s => ?_
     refine n_1 34 s (by kernel_rfl) rfl rfl (l_quiet s rfl rfl (y_pick_f s rfl rfl) fun a s => ?_); refine ⟨fun g _ h => h, ?_⟩
     refine n_1 35 s (by kernel_rfl) rfl rfl (l_quiet s rfl rfl (y_move s rfl) fun a s => ?_); refine ⟨fun g _ h => h, ?_⟩
     refine n_pass 36 s (by kernel_rfl) rfl ⟨_, _, _, rfl, rfl, rfl, rfl⟩ rfl rfl fun a s => ?_
     refine n_pass 37 s (by kernel_rfl) rfl ⟨_, _, _, rfl, rfl, rfl, rfl⟩ rfl rfl fun a s => ?_
     refine n_pass 38 s (by kernel_rfl) rfl ⟨_, _, _, rfl, rfl, rfl, rfl⟩ rfl rfl fun a s => ?_
     refine n_pass 39 s (by kernel_rfl) rfl ⟨_, _, _, rfl, rfl, rfl, rfl⟩ rfl rfl fun a s => ?_
     refine n_1 40 s (by kernel_rfl) rfl rfl (l_quiet s rfl rfl (y_pick_f s rfl rfl) fun a s => ?_); refine ⟨fun g _ h => h, ?_⟩
     refine n_1 41 s (by kernel_rfl) rfl rfl (l_quiet s rfl rfl (y_move s rfl) fun a s => ?_); refine ⟨fun g _ h => h, ?_⟩
     refine n_pass 42 s (by kernel_rfl) rfl ⟨_, _, _, rfl, rfl, rfl, rfl⟩ rfl rfl fun a s => ?_
     refine n_pass 43 s (by kernel_rfl) rfl ⟨_, _, _, rfl, rfl, rfl, rfl⟩ rfl rfl fun a s => ?_
     refine n_pass 44 s (by kernel_rfl) rfl ⟨_, _, _, rfl, rfl, rfl, rfl⟩ rfl rfl fun a s => ?_
     refine n_pass 45 s (by kernel_rfl) rfl ⟨_, _, _, rfl, rfl, rfl, rfl⟩ rfl rfl fun a s => ?_
     refine n_1 46 s (by kernel_rfl) rfl rfl (l_quiet s rfl rfl (y_pick_f s rfl rfl) fun a s => ?_); refine ⟨fun g _ h => h, ?_⟩
     refine n_1 47 s (by kernel_rfl) rfl rfl (l_quiet s rfl rfl (y_move s rfl) fun a s => ?_); refine ⟨fun g _ h => h, ?_⟩
     refine n_pass 48 s (by kernel_rfl) rfl ⟨_, _, _, rfl, rfl, rfl, rfl⟩ rfl rfl fun a s => ?_
     refine n_pass 49 s (by kernel_rfl) rfl ⟨_, _, _, rfl, rfl, rfl, rfl⟩ rfl rfl fun a s => ?_
     refine n_pass 50 s (by kernel_rfl) rfl ⟨_, _, _, rfl, rfl, rfl, rfl⟩ rfl rfl fun a s => ?_
     refine n_pass 51 s (by kernel_rfl) rfl ⟨_, _, _, rfl, rfl, rfl, rfl⟩ rfl rfl fun a s => ?_
     refine n_pass 52 s (by kernel_rfl) rfl ⟨_, _, _, rfl, rfl, rfl, rfl⟩ rfl rfl fun a s => ?_
     refine n_1 53 s (by kernel_rfl) rfl rfl (l_quiet s rfl rfl (y_pick_f s rfl rfl) fun a s => ?_); refine ⟨fun g _ h => h, ?_⟩
     refine n_1 54 s (by kernel_rfl) rfl rfl (l_quiet s rfl rfl (y_assign s rfl) fun a s => ?_); refine ⟨fun g _ h => h, ?_⟩
     refine n_end (by kernel_rfl) ?_; clear hR hZ hE
     apply pN
     apply wp_ret
     obtain rfl := Option.some.inj hg
     refine fin1 (fn := Tryz.f6) s rfl (r_tmp s rfl) ?_
     exact rfl
   have hs50e := decide_eq_false hs50
   replace hg := br_f hg hs50
   refine d_steps s [] rfl ?_; clear s; intro wr hZ s; have hR := s.wd; have hE := Ext.init hR 0
   refine n_q 0 0 s hR rfl (by kernel_rfl) (by kernel_rfl) (by kernel_rfl) rfl rfl rfl (y_move s rfl) fun a s => ?_
   refine n_q 1 0 s hR rfl (by kernel_rfl) (by kernel_rfl) (by kernel_rfl) rfl rfl rfl (yl_b (y_eql s rfl rfl) hs41e) fun a s => ?_
   refine n_q 2 0 s hR rfl (by kernel_rfl) (by kernel_rfl) (by kernel_rfl) rfl rfl rfl (y_move s rfl) fun a s => ?_
   refine n_q 3 1208 s hR rfl (by kernel_rfl) (by kernel_rfl) (by kernel_rfl) rfl ⟨_, _, _, rfl, rfl, rfl, rfl⟩ rfl (y_loadAll (kk := 1208) s rfl rfl underlying24 rfl rfl) fun a s => ?_
   refine n_q 4 0 s hR rfl (by kernel_rfl) (by kernel_rfl) (by kernel_rfl) rfl ⟨_, _, _, rfl, rfl, rfl, rfl⟩ rfl (y_build (parts := [(0, .const (vT ([97]))), (1, .const (vI (-1)))]) (ps := [(0, vT ([97])), (1, vI (-1))]) (cells := #[vT ([97]), vI (-1)]) s rfl (by kernel_rfl)) fun a s => ?_
   refine n_q 5 0 s hR rfl (by kernel_rfl) (by kernel_rfl) (by kernel_rfl) rfl ⟨_, _, _, rfl, rfl, rfl, rfl⟩ rfl (y_build (parts := [(0, .const (vT ([98]))), (1, .const (vI 1))]) (ps := [(0, vT ([98])), (1, vI 1)]) (cells := #[vT ([98]), vI 1]) s rfl (by kernel_rfl)) fun a s => ?_
   refine n_1 6 s (by kernel_rfl) rfl ⟨_, _, _, rfl, rfl, rfl, rfl⟩ (l_buildDense (sz := 2) s 1506 rfl rfl rfl underlying22 rfl rfl rfl rfl rfl rfl rfl fun b189 a w hbb189 hK s => ?_)
   have hNb189 := NewA.lit hZ hbb189
   clear hbb189
   replace hE := hE.grow hK; replace hZ := Nat.le_trans hZ hK.size; refine ⟨fun g _ h => h.grow hK, ?_⟩; clear hK
   replace s := s.add 158 (rdF RWeight (cellsOfL [.agg #[vT ([97]), vI (-1)], .agg #[vT ([98]), vI 1]]) ([(Weight.mk [97] (-1)), (Weight.mk [98] 1)])) (RdAll.cons (by exact (RWeight.mk' (x := (Weight.mk [97] (-1))) (by first | omega | (rw [List.length_append]; omega) | (simp only [List.length_append]; omega) | (simp only [List.length_append, List.length_take, List.length_drop, List.length_cons, List.length_nil]; omega) | exact smin_len (by omega) (by omega)))) (RdAll.cons (by exact (RWeight.mk' (x := (Weight.mk [98] 1)) (by first | omega | (rw [List.length_append]; omega) | (simp only [List.length_append]; omega) | (simp only [List.length_append, List.length_take, List.length_drop, List.length_cons, List.length_nil]; omega) | exact smin_len (by omega) (by omega)))) (RdAll.nil _ _ _)))
   replace s := s.freeze (R := RWeight) (kk := 1506) (L' := [(1208, Ob.box b21 [sl Au20a1 (r14.1.Weights) cu20a1] 24), (1304, Ob.box b35 [vI 2, vT ([110, 112]), vI 0, vI 2, .slice (some ⟨b34, 0, none⟩) (2) (2)] 42)]) 159 rfl rfl (s.ft 158 rfl) ⟨rfl, rfl, trivial⟩ rfl
   refine n_1 7 s (by kernel_rfl) rfl ⟨_, _, _, rfl, rfl, rfl, rfl⟩ (l_quiet s rfl rfl (y_build (parts := [(0, .tmp 29)]) (ps := [(0, .slice (some ⟨b189, 0, none⟩) (2) (2))]) (cells := #[.slice (some ⟨b189, 0, none⟩) (2) (2)]) s rfl (by kernel_rfl)) fun a s => ?_); refine ⟨fun g _ h => h, ?_⟩
   refine n_1 8 s (by kernel_rfl) rfl ⟨_, _, _, rfl, rfl, rfl, rfl⟩ (l_call (cap := []) s rfl func9 rfl (by kernel_rfl) rfl rfl (c_r37_Same n _ _ s.lt r14.1 (Au20a1) (cu20a1) (s.ft 114 rfl) (Model.mk [(Weight.mk [97] (-1)), (Weight.mk [98] 1)]) (some ⟨b189, 0, none⟩) (2) (s.ft 159 rfl) r43 hr43) fun v190 a w hK hp s => ?_)
   replace hE := hE.grow hK; replace hZ := Nat.le_trans hZ hK.size; refine ⟨fun g _ h => h.grow hK, ?_⟩; clear hK
   obtain rfl := hp.trans (congrArg Value.bool hs46)
   refine n_1 9 s (by kernel_rfl) rfl rfl (l_quiet s rfl rfl (y_pick_t s rfl rfl) fun a s => ?_); refine ⟨fun g _ h => h, ?_⟩
   refine n_1 10 s (by kernel_rfl) rfl rfl (l_quiet s rfl rfl (y_move s rfl) fun a s => ?_); refine ⟨fun g _ h => h, ?_⟩
   refine n_ql 12 s hE rfl (by kernel_rfl) (by kernel_rfl) (by kernel_rfl) rfl ⟨_, _, _, rfl, rfl, rfl, rfl⟩ rfl (fun w' s => y_move s rfl) fun a s => ?_
   refine n_1 11 s (by kernel_rfl) rfl ⟨_, _, _, rfl, rfl, rfl, rfl⟩ (l_quiet s rfl rfl (y_loadAll (kk := 1208) s rfl rfl underlying24 rfl rfl) fun a s => ?_); refine ⟨fun g _ h => h, ?_⟩
   refine n_1 13 s (by kernel_rfl) rfl ⟨_, _, _, rfl, rfl, rfl, rfl⟩ (l_call (cap := []) s rfl func14 rfl (by kernel_rfl) rfl rfl (c_model_Best n _ _ s.lt r14.1 (Au20a1) (cu20a1) (s.ft 114 rfl) [r1, r4] (some ⟨b12, 0, none⟩) (2) (s.ft 111 rfl) r47 hr47) fun v192 a w hK hp s => ?_)
   replace hE := hE.grow hK; replace hZ := Nat.le_trans hZ hK.size; refine ⟨fun g _ h => h.grow hK, ?_⟩; clear hK
   obtain rfl := hp
   refine n_1 14 s (by kernel_rfl) rfl ⟨_, _, _, rfl, rfl, rfl, rfl⟩ (l_quiet s rfl rfl (yl_b (y_eql s rfl rfl) hs50e) fun a s => ?_); refine ⟨fun g _ h => h, ?_⟩
   refine n_1 15 s (by kernel_rfl) rfl rfl (l_quiet s rfl rfl (y_pick_t s rfl rfl) fun a s => ?_); refine ⟨fun g _ h => h, ?_⟩
   refine n_1 16 s (by kernel_rfl) rfl rfl (l_quiet s rfl rfl (y_move s rfl) fun a s => ?_); refine ⟨fun g _ h => h, ?_⟩
   refine n_qlpass 17 s hE rfl (by kernel_rfl) (by kernel_rfl) (by kernel_rfl) rfl ⟨_, _, _, rfl, rfl, rfl, rfl⟩ rfl fun a s => ?_
   refine n_pass 18 s (by kernel_rfl) rfl ⟨_, _, _, rfl, rfl, rfl, rfl⟩ rfl rfl fun a s => ?_
   refine n_pass 19 s (by kernel_rfl) rfl ⟨_, _, _, rfl, rfl, rfl, rfl⟩ rfl rfl fun a s => ?_
   refine n_pass 20 s (by kernel_rfl) rfl ⟨_, _, _, rfl, rfl, rfl, rfl⟩ rfl rfl fun a s => ?_
   refine n_pass 21 s (by kernel_rfl) rfl ⟨_, _, _, rfl, rfl, rfl, rfl⟩ rfl rfl fun a s => ?_
   refine n_pass 22 s (by kernel_rfl) rfl ⟨_, _, _, rfl, rfl, rfl, rfl⟩ rfl rfl fun a s => ?_
   refine n_1 23 s (by kernel_rfl) rfl rfl (l_quiet s rfl rfl (y_pick_f s rfl rfl) fun a s => ?_); refine ⟨fun g _ h => h, ?_⟩
   refine n_1 24 s (by kernel_rfl) rfl rfl (l_quiet s rfl rfl (y_move s rfl) fun a s => ?_); refine ⟨fun g _ h => h, ?_⟩
   refine n_pass 25 s (by kernel_rfl) rfl ⟨_, _, _, rfl, rfl, rfl, rfl⟩ rfl rfl fun a s => ?_
   refine n_pass 26 s (by kernel_rfl) rfl ⟨_, _, _, rfl, rfl, rfl, rfl⟩ rfl rfl fun a s => ?_
   refine n_pass 27 s (by kernel_rfl) rfl ⟨_, _, _, rfl, rfl, rfl, rfl⟩ rfl rfl fun a s => ?_
   refine n_1 28 s (by kernel_rfl) rfl rfl (l_quiet s rfl rfl (y_pick_f s rfl rfl) fun a s => ?_); refine ⟨fun g _ h => h, ?_⟩
   refine n_1 29 s (by kernel_rfl) rfl rfl (l_quiet s rfl rfl (y_move s rfl) fun a s => ?_); refine ⟨fun g _ h => h, ?_⟩
   refine n_pass 30 s (by kernel_rfl) rfl ⟨_, _, _, rfl, rfl, rfl, rfl⟩ rfl rfl fun a s => ?_
   refine n_pass 31 s (by kernel_rfl) rfl ⟨_, _, _, rfl, rfl, rfl, rfl⟩ rfl rfl fun a s => ?_
   refine n_pass 32 s (by kernel_rfl) rfl ⟨_, _, _, rfl, rfl, rfl, rfl⟩ rfl rfl fun a s => ?_
   refine n_pass 33 s (by kernel_rfl) rfl ⟨_, _, _, rfl, rfl, rfl, rfl⟩ rfl rfl fun a s => ?_
   refine n_1 34 s (by kernel_rfl) rfl rfl (l_quiet s rfl rfl (y_pick_f s rfl rfl) fun a s => ?_); refine ⟨fun g _ h => h, ?_⟩
   refine n_1 35 s (by kernel_rfl) rfl rfl (l_quiet s rfl rfl (y_move s rfl) fun a s => ?_); refine ⟨fun g _ h => h, ?_⟩
   refine n_pass 36 s (by kernel_rfl) rfl ⟨_, _, _, rfl, rfl, rfl, rfl⟩ rfl rfl fun a s => ?_
   refine n_pass 37 s (by kernel_rfl) rfl ⟨_, _, _, rfl, rfl, rfl, rfl⟩ rfl rfl fun a s => ?_
   refine n_pass 38 s (by kernel_rfl) rfl ⟨_, _, _, rfl, rfl, rfl, rfl⟩ rfl rfl fun a s => ?_
   refine n_pass 39 s (by kernel_rfl) rfl ⟨_, _, _, rfl, rfl, rfl, rfl⟩ rfl rfl fun a s => ?_
   refine n_1 40 s (by kernel_rfl) rfl rfl (l_quiet s rfl rfl (y_pick_f s rfl rfl) fun a s => ?_); refine ⟨fun g _ h => h, ?_⟩
   refine n_1 41 s (by kernel_rfl) rfl rfl (l_quiet s rfl rfl (y_move s rfl) fun a s => ?_); refine ⟨fun g _ h => h, ?_⟩
   refine n_pass 42 s (by kernel_rfl) rfl ⟨_, _, _, rfl, rfl, rfl, rfl⟩ rfl rfl fun a s => ?_
   refine n_pass 43 s (by kernel_rfl) rfl ⟨_, _, _, rfl, rfl, rfl, rfl⟩ rfl rfl fun a s => ?_
   refine n_pass 44 s (by kernel_rfl) rfl ⟨_, _, _, rfl, rfl, rfl, rfl⟩ rfl rfl fun a s => ?_
   refine n_pass 45 s (by kernel_rfl) rfl ⟨_, _, _, rfl, rfl, rfl, rfl⟩ rfl rfl fun a s => ?_
   refine n_1 46 s (by kernel_rfl) rfl rfl (l_quiet s rfl rfl (y_pick_f s rfl rfl) fun a s => ?_); refine ⟨fun g _ h => h, ?_⟩
   refine n_1 47 s (by kernel_rfl) rfl rfl (l_quiet s rfl rfl (y_move s rfl) fun a s => ?_); refine ⟨fun g _ h => h, ?_⟩
   refine n_pass 48 s (by kernel_rfl) rfl ⟨_, _, _, rfl, rfl, rfl, rfl⟩ rfl rfl fun a s => ?_
   refine n_pass 49 s (by kernel_rfl) rfl ⟨_, _, _, rfl, rfl, rfl, rfl⟩ rfl rfl fun a s => ?_
   refine n_pass 50 s (by kernel_rfl) rfl ⟨_, _, _, rfl, rfl, rfl, rfl⟩ rfl rfl fun a s => ?_
   refine n_pass 51 s (by kernel_rfl) rfl ⟨_, _, _, rfl, rfl, rfl, rfl⟩ rfl rfl fun a s => ?_
   refine n_pass 52 s (by kernel_rfl) rfl ⟨_, _, _, rfl, rfl, rfl, rfl⟩ rfl rfl fun a s => ?_
   refine n_1 53 s (by kernel_rfl) rfl rfl (l_quiet s rfl rfl (y_pick_f s rfl rfl) fun a s => ?_); refine ⟨fun g _ h => h, ?_⟩
   refine n_1 54 s (by kernel_rfl) rfl rfl (l_quiet s rfl rfl (y_assign s rfl) fun a s => ?_); refine ⟨fun g _ h => h, ?_⟩
   refine n_end (by kernel_rfl) ?_; clear hR hZ hE
   apply pN
   apply wp_ret
   obtain rfl := Option.some.inj hg
   refine fin1 (fn := Tryz.f6) s rfl (r_tmp s rfl) ?_
   exact rfl
  replace hg := br_n hg hs46
  refine d_steps s [] rfl ?_; clear s; intro wr hZ s; have hR := s.wd; have hE := Ext.init hR 0
  refine n_q 0 0 s hR rfl (by kernel_rfl) (by kernel_rfl) (by kernel_rfl) rfl rfl rfl (y_move s rfl) fun a s => ?_
  refine n_q 1 0 s hR rfl (by kernel_rfl) (by kernel_rfl) (by kernel_rfl) rfl rfl rfl (yl_b (y_eql s rfl rfl) hs41e) fun a s => ?_
  refine n_q 2 0 s hR rfl (by kernel_rfl) (by kernel_rfl) (by kernel_rfl) rfl rfl rfl (y_move s rfl) fun a s => ?_
  refine n_q 3 1208 s hR rfl (by kernel_rfl) (by kernel_rfl) (by kernel_rfl) rfl ⟨_, _, _, rfl, rfl, rfl, rfl⟩ rfl (y_loadAll (kk := 1208) s rfl rfl underlying24 rfl rfl) fun a s => ?_
  refine n_q 4 0 s hR rfl (by kernel_rfl) (by kernel_rfl) (by kernel_rfl) rfl ⟨_, _, _, rfl, rfl, rfl, rfl⟩ rfl (y_build (parts := [(0, .const (vT ([97]))), (1, .const (vI (-1)))]) (ps := [(0, vT ([97])), (1, vI (-1))]) (cells := #[vT ([97]), vI (-1)]) s rfl (by kernel_rfl)) fun a s => ?_
  refine n_q 5 0 s hR rfl (by kernel_rfl) (by kernel_rfl) (by kernel_rfl) rfl ⟨_, _, _, rfl, rfl, rfl, rfl⟩ rfl (y_build (parts := [(0, .const (vT ([98]))), (1, .const (vI 1))]) (ps := [(0, vT ([98])), (1, vI 1)]) (cells := #[vT ([98]), vI 1]) s rfl (by kernel_rfl)) fun a s => ?_
  refine n_1 6 s (by kernel_rfl) rfl ⟨_, _, _, rfl, rfl, rfl, rfl⟩ (l_buildDense (sz := 2) s 1506 rfl rfl rfl underlying22 rfl rfl rfl rfl rfl rfl rfl fun b194 a w hbb194 hK s => ?_)
  have hNb194 := NewA.lit hZ hbb194
  clear hbb194
  replace hE := hE.grow hK; replace hZ := Nat.le_trans hZ hK.size; refine ⟨fun g _ h => h.grow hK, ?_⟩; clear hK
  replace s := s.add 160 (rdF RWeight (cellsOfL [.agg #[vT ([97]), vI (-1)], .agg #[vT ([98]), vI 1]]) ([(Weight.mk [97] (-1)), (Weight.mk [98] 1)])) (RdAll.cons (by exact (RWeight.mk' (x := (Weight.mk [97] (-1))) (by first | omega | (rw [List.length_append]; omega) | (simp only [List.length_append]; omega) | (simp only [List.length_append, List.length_take, List.length_drop, List.length_cons, List.length_nil]; omega) | exact smin_len (by omega) (by omega)))) (RdAll.cons (by exact (RWeight.mk' (x := (Weight.mk [98] 1)) (by first | omega | (rw [List.length_append]; omega) | (simp only [List.length_append]; omega) | (simp only [List.length_append, List.length_take, List.length_drop, List.length_cons, List.length_nil]; omega) | exact smin_len (by omega) (by omega)))) (RdAll.nil _ _ _)))
  replace s := s.freeze (R := RWeight) (kk := 1506) (L' := [(1208, Ob.box b21 [sl Au20a1 (r14.1.Weights) cu20a1] 24), (1304, Ob.box b35 [vI 2, vT ([110, 112]), vI 0, vI 2, .slice (some ⟨b34, 0, none⟩) (2) (2)] 42)]) 161 rfl rfl (s.ft 160 rfl) ⟨rfl, rfl, trivial⟩ rfl
  refine n_1 7 s (by kernel_rfl) rfl ⟨_, _, _, rfl, rfl, rfl, rfl⟩ (l_quiet s rfl rfl (y_build (parts := [(0, .tmp 29)]) (ps := [(0, .slice (some ⟨b194, 0, none⟩) (2) (2))]) (cells := #[.slice (some ⟨b194, 0, none⟩) (2) (2)]) s rfl (by kernel_rfl)) fun a s => ?_); refine ⟨fun g _ h => h, ?_⟩
  refine n_1 8 s (by kernel_rfl) rfl ⟨_, _, _, rfl, rfl, rfl, rfl⟩ (l_call (cap := []) s rfl func9 rfl (by kernel_rfl) rfl rfl (c_r37_Same n _ _ s.lt r14.1 (Au20a1) (cu20a1) (s.ft 114 rfl) (Model.mk [(Weight.mk [97] (-1)), (Weight.mk [98] 1)]) (some ⟨b194, 0, none⟩) (2) (s.ft 161 rfl) r43 hr43) fun v195 a w hK hp s => ?_)
  replace hE := hE.grow hK; replace hZ := Nat.le_trans hZ hK.size; refine ⟨fun g _ h => h.grow hK, ?_⟩; clear hK
  obtain rfl := hp.trans (congrArg Value.bool hs46)
  refine n_1 9 s (by kernel_rfl) rfl rfl (l_quiet s rfl rfl (y_pick_t s rfl rfl) fun a s => ?_); refine ⟨fun g _ h => h, ?_⟩
  refine n_1 10 s (by kernel_rfl) rfl rfl (l_quiet s rfl rfl (y_move s rfl) fun a s => ?_); refine ⟨fun g _ h => h, ?_⟩
  refine n_qlpass 11 s hE rfl (by kernel_rfl) (by kernel_rfl) (by kernel_rfl) rfl ⟨_, _, _, rfl, rfl, rfl, rfl⟩ rfl fun a s => ?_
  refine n_pass 12 s (by kernel_rfl) rfl ⟨_, _, _, rfl, rfl, rfl, rfl⟩ rfl rfl fun a s => ?_
  refine n_pass 13 s (by kernel_rfl) rfl ⟨_, _, _, rfl, rfl, rfl, rfl⟩ rfl rfl fun a s => ?_
  refine n_pass 14 s (by kernel_rfl) rfl ⟨_, _, _, rfl, rfl, rfl, rfl⟩ rfl rfl fun a s => ?_
  refine n_1 15 s (by kernel_rfl) rfl rfl (l_quiet s rfl rfl (y_pick_f s rfl rfl) fun a s => ?_); refine ⟨fun g _ h => h, ?_⟩
  refine n_1 16 s (by kernel_rfl) rfl rfl (l_quiet s rfl rfl (y_move s rfl) fun a s => ?_); refine ⟨fun g _ h => h, ?_⟩
  refine n_qlpass 17 s hE rfl (by kernel_rfl) (by kernel_rfl) (by kernel_rfl) rfl ⟨_, _, _, rfl, rfl, rfl, rfl⟩ rfl fun a s => ?_
  refine n_pass 18 s (by kernel_rfl) rfl ⟨_, _, _, rfl, rfl, rfl, rfl⟩ rfl rfl fun a s => ?_
  refine n_pass 19 s (by kernel_rfl) rfl ⟨_, _, _, rfl, rfl, rfl, rfl⟩ rfl rfl fun a s => ?_
  refine n_pass 20 s (by kernel_rfl) rfl ⟨_, _, _, rfl, rfl, rfl, rfl⟩ rfl rfl fun a s => ?_
  refine n_pass 21 s (by kernel_rfl) rfl ⟨_, _, _, rfl, rfl, rfl, rfl⟩ rfl rfl fun a s => ?_
  refine n_pass 22 s (by kernel_rfl) rfl ⟨_, _, _, rfl, rfl, rfl, rfl⟩ rfl rfl fun a s => ?_
  refine n_1 23 s (by kernel_rfl) rfl rfl (l_quiet s rfl rfl (y_pick_f s rfl rfl) fun a s => ?_); refine ⟨fun g _ h => h, ?_⟩
  refine n_1 24 s (by kernel_rfl) rfl rfl (l_quiet s rfl rfl (y_move s rfl) fun a s => ?_); refine ⟨fun g _ h => h, ?_⟩
  refine n_pass 25 s (by kernel_rfl) rfl ⟨_, _, _, rfl, rfl, rfl, rfl⟩ rfl rfl fun a s => ?_
  refine n_pass 26 s (by kernel_rfl) rfl ⟨_, _, _, rfl, rfl, rfl, rfl⟩ rfl rfl fun a s => ?_
  refine n_pass 27 s (by kernel_rfl) rfl ⟨_, _, _, rfl, rfl, rfl, rfl⟩ rfl rfl fun a s => ?_
  refine n_1 28 s (by kernel_rfl) rfl rfl (l_quiet s rfl rfl (y_pick_f s rfl rfl) fun a s => ?_); refine ⟨fun g _ h => h, ?_⟩
  refine n_1 29 s (by kernel_rfl) rfl rfl (l_quiet s rfl rfl (y_move s rfl) fun a s => ?_); refine ⟨fun g _ h => h, ?_⟩
  refine n_pass 30 s (by kernel_rfl) rfl ⟨_, _, _, rfl, rfl, rfl, rfl⟩ rfl rfl fun a s => ?_
  refine n_pass 31 s (by kernel_rfl) rfl ⟨_, _, _, rfl, rfl, rfl, rfl⟩ rfl rfl fun a s => ?_
  refine n_pass 32 s (by kernel_rfl) rfl ⟨_, _, _, rfl, rfl, rfl, rfl⟩ rfl rfl fun a s => ?_
  refine n_pass 33 s (by kernel_rfl) rfl ⟨_, _, _, rfl, rfl, rfl, rfl⟩ rfl rfl fun a s => ?_
  refine n_1 34 s (by kernel_rfl) rfl rfl (l_quiet s rfl rfl (y_pick_f s rfl rfl) fun a s => ?_); refine ⟨fun g _ h => h, ?_⟩
  refine n_1 35 s (by kernel_rfl) rfl rfl (l_quiet s rfl rfl (y_move s rfl) fun a s => ?_); refine ⟨fun g _ h => h, ?_⟩
  refine n_pass 36 s (by kernel_rfl) rfl ⟨_, _, _, rfl, rfl, rfl, rfl⟩ rfl rfl fun a s => ?_
  refine n_pass 37 s (by kernel_rfl) rfl ⟨_, _, _, rfl, rfl, rfl, rfl⟩ rfl rfl fun a s => ?_
  refine n_pass 38 s (by kernel_rfl) rfl ⟨_, _, _, rfl, rfl, rfl, rfl⟩ rfl rfl fun a s => ?_
  refine n_pass 39 s (by kernel_rfl) rfl ⟨_, _, _, rfl, rfl, rfl, rfl⟩ rfl rfl fun a s => ?_
  refine n_1 40 s (by kernel_rfl) rfl rfl (l_quiet s rfl rfl (y_pick_f s rfl rfl) fun a s => ?_); refine ⟨fun g _ h => h, ?_⟩
  refine n_1 41 s (by kernel_rfl) rfl rfl (l_quiet s rfl rfl (y_move s rfl) fun a s => ?_); refine ⟨fun g _ h => h, ?_⟩
  refine n_pass 42 s (by kernel_rfl) rfl ⟨_, _, _, rfl, rfl, rfl, rfl⟩ rfl rfl fun a s => ?_
  refine n_pass 43 s (by kernel_rfl) rfl ⟨_, _, _, rfl, rfl, rfl, rfl⟩ rfl rfl fun a s => ?_
  refine n_pass 44 s (by kernel_rfl) rfl ⟨_, _, _, rfl, rfl, rfl, rfl⟩ rfl rfl fun a s => ?_
  refine n_pass 45 s (by kernel_rfl) rfl ⟨_, _, _, rfl, rfl, rfl, rfl⟩ rfl rfl fun a s => ?_
  refine n_1 46 s (by kernel_rfl) rfl rfl (l_quiet s rfl rfl (y_pick_f s rfl rfl) fun a s => ?_); refine ⟨fun g _ h => h, ?_⟩
  refine n_1 47 s (by kernel_rfl) rfl rfl (l_quiet s rfl rfl (y_move s rfl) fun a s => ?_); refine ⟨fun g _ h => h, ?_⟩
  refine n_pass 48 s (by kernel_rfl) rfl ⟨_, _, _, rfl, rfl, rfl, rfl⟩ rfl rfl fun a s => ?_
  refine n_pass 49 s (by kernel_rfl) rfl ⟨_, _, _, rfl, rfl, rfl, rfl⟩ rfl rfl fun a s => ?_
  refine n_pass 50 s (by kernel_rfl) rfl ⟨_, _, _, rfl, rfl, rfl, rfl⟩ rfl rfl fun a s => ?_
  refine n_pass 51 s (by kernel_rfl) rfl ⟨_, _, _, rfl, rfl, rfl, rfl⟩ rfl rfl fun a s => ?_
  refine n_pass 52 s (by kernel_rfl) rfl ⟨_, _, _, rfl, rfl, rfl, rfl⟩ rfl rfl fun a s => ?_
  refine n_1 53 s (by kernel_rfl) rfl rfl (l_quiet s rfl rfl (y_pick_f s rfl rfl) fun a s => ?_); refine ⟨fun g _ h => h, ?_⟩
  refine n_1 54 s (by kernel_rfl) rfl rfl (l_quiet s rfl rfl (y_assign s rfl) fun a s => ?_); refine ⟨fun g _ h => h, ?_⟩
  refine n_end (by kernel_rfl) ?_; clear hR hZ hE
  apply pN
  apply wp_ret
  obtain rfl := Option.some.inj hg
  refine fin1 (fn := Tryz.f6) s rfl (r_tmp s rfl) ?_
  exact rfl
 have hs41e := decide_eq_false hs41
 replace hg := br_f hg hs41
 refine d_plan s [] [(0, some 0), (1, some 0), (2, some 0), (3, some 0), (4, some 0), (5, some 0), (6, some 0), (7, some 0), (8, some 0), (9, some 0), (10, some 0), (11, some 0), (12, some 0), (13, some 0), (14, some 0), (15, some 0), (16, some 0), (17, some 0), (18, some 0), (19, some 0), (20, some 0), (21, some 0), (22, some 0), (23, some 0), (24, some 0), (25, some 0), (26, some 0), (27, some 0), (28, some 0), (29, some 0), (30, some 0), (31, some 0), (32, some 0), (33, some 0), (34, some 0), (35, some 0), (36, some 0), (37, some 0), (38, some 0), (39, some 0), (40, some 0), (41, some 0), (42, some 0), (43, some 0), (44, some 0), (45, some 0), (46, some 0), (47, some 0), (48, some 0), (49, some 0), (50, some 0), (51, some 0), (52, some 0), (53, some 0), (54, some 0)] rfl (by kernel_rfl) (by kernel_rfl) rfl ?_; clear s; intro wr hZ s; have hR := s.wd
 refine qt s hR rfl (y_move s rfl) fun a s => ?_
 refine qt s hR rfl (yl_b (y_eql s rfl rfl) hs41e) fun a s => ?_
 refine qt s hR rfl (y_move s rfl) fun a s => ?_
 refine q_pass s hR rfl rfl ⟨_, _, _, rfl, rfl, rfl, rfl⟩ rfl fun a s => ?_
 refine q_pass s hR rfl rfl ⟨_, _, _, rfl, rfl, rfl, rfl⟩ rfl fun a s => ?_
 refine q_pass s hR rfl rfl ⟨_, _, _, rfl, rfl, rfl, rfl⟩ rfl fun a s => ?_
 refine q_pass s hR rfl rfl ⟨_, _, _, rfl, rfl, rfl, rfl⟩ rfl fun a s => ?_
 refine q_pass s hR rfl rfl ⟨_, _, _, rfl, rfl, rfl, rfl⟩ rfl fun a s => ?_
 refine q_pass s hR rfl rfl ⟨_, _, _, rfl, rfl, rfl, rfl⟩ rfl fun a s => ?_
 refine qt s hR rfl (y_pick_f s rfl rfl) fun a s => ?_
 refine qt s hR rfl (y_move s rfl) fun a s => ?_
 refine q_pass s hR rfl rfl ⟨_, _, _, rfl, rfl, rfl, rfl⟩ rfl fun a s => ?_
 refine q_pass s hR rfl rfl ⟨_, _, _, rfl, rfl, rfl, rfl⟩ rfl fun a s => ?_
 refine q_pass s hR rfl rfl ⟨_, _, _, rfl, rfl, rfl, rfl⟩ rfl fun a s => ?_
 refine q_pass s hR rfl rfl ⟨_, _, _, rfl, rfl, rfl, rfl⟩ rfl fun a s => ?_
 refine qt s hR rfl (y_pick_f s rfl rfl) fun a s => ?_
 refine qt s hR rfl (y_move s rfl) fun a s => ?_
 refine q_pass s hR rfl rfl ⟨_, _, _, rfl, rfl, rfl, rfl⟩ rfl fun a s => ?_
 refine q_pass s hR rfl rfl ⟨_, _, _, rfl, rfl, rfl, rfl⟩ rfl fun a s => ?_
 refine q_pass s hR rfl rfl ⟨_, _, _, rfl, rfl, rfl, rfl⟩ rfl fun a s => ?_
 refine q_pass s hR rfl rfl ⟨_, _, _, rfl, rfl, rfl, rfl⟩ rfl fun a s => ?_
 refine q_pass s hR rfl rfl ⟨_, _, _, rfl, rfl, rfl, rfl⟩ rfl fun a s => ?_
 refine q_pass s hR rfl rfl ⟨_, _, _, rfl, rfl, rfl, rfl⟩ rfl fun a s => ?_
 refine qt s hR rfl (y_pick_f s rfl rfl) fun a s => ?_
 refine qt s hR rfl (y_move s rfl) fun a s => ?_
 refine q_pass s hR rfl rfl ⟨_, _, _, rfl, rfl, rfl, rfl⟩ rfl fun a s => ?_
 refine q_pass s hR rfl rfl ⟨_, _, _, rfl, rfl, rfl, rfl⟩ rfl fun a s => ?_
 refine q_pass s hR rfl rfl ⟨_, _, _, rfl, rfl, rfl, rfl⟩ rfl fun a s => ?_
 refine qt s hR rfl (y_pick_f s rfl rfl) fun a s => ?_
 refine qt s hR rfl (y_move s rfl) fun a s => ?_
 refine q_pass s hR rfl rfl ⟨_, _, _, rfl, rfl, rfl, rfl⟩ rfl fun a s => ?_
 refine q_pass s hR rfl rfl ⟨_, _, _, rfl, rfl, rfl, rfl⟩ rfl fun a s => ?_
 refine q_pass s hR rfl rfl ⟨_, _, _, rfl, rfl, rfl, rfl⟩ rfl fun a s => ?_
 refine q_pass s hR rfl rfl ⟨_, _, _, rfl, rfl, rfl, rfl⟩ rfl fun a s => ?_
 refine qt s hR rfl (y_pick_f s rfl rfl) fun a s => ?_
 refine qt s hR rfl (y_move s rfl) fun a s => ?_
 refine q_pass s hR rfl rfl ⟨_, _, _, rfl, rfl, rfl, rfl⟩ rfl fun a s => ?_
 refine q_pass s hR rfl rfl ⟨_, _, _, rfl, rfl, rfl, rfl⟩ rfl fun a s => ?_
 refine q_pass s hR rfl rfl ⟨_, _, _, rfl, rfl, rfl, rfl⟩ rfl fun a s => ?_
 refine q_pass s hR rfl rfl ⟨_, _, _, rfl, rfl, rfl, rfl⟩ rfl fun a s => ?_
 refine qt s hR rfl (y_pick_f s rfl rfl) fun a s => ?_
 refine qt s hR rfl (y_move s rfl) fun a s => ?_
 refine q_pass s hR rfl rfl ⟨_, _, _, rfl, rfl, rfl, rfl⟩ rfl fun a s => ?_
 refine q_pass s hR rfl rfl ⟨_, _, _, rfl, rfl, rfl, rfl⟩ rfl fun a s => ?_
 refine q_pass s hR rfl rfl ⟨_, _, _, rfl, rfl, rfl, rfl⟩ rfl fun a s => ?_
 refine q_pass s hR rfl rfl ⟨_, _, _, rfl, rfl, rfl, rfl⟩ rfl fun a s => ?_
 refine qt s hR rfl (y_pick_f s rfl rfl) fun a s => ?_
 refine qt s hR rfl (y_move s rfl) fun a s => ?_
 refine q_pass s hR rfl rfl ⟨_, _, _, rfl, rfl, rfl, rfl⟩ rfl fun a s => ?_
 refine q_pass s hR rfl rfl ⟨_, _, _, rfl, rfl, rfl, rfl⟩ rfl fun a s => ?_
 refine q_pass s hR rfl rfl ⟨_, _, _, rfl, rfl, rfl, rfl⟩ rfl fun a s => ?_
 refine q_pass s hR rfl rfl ⟨_, _, _, rfl, rfl, rfl, rfl⟩ rfl fun a s => ?_
 refine q_pass s hR rfl rfl ⟨_, _, _, rfl, rfl, rfl, rfl⟩ rfl fun a s => ?_
 refine qt s hR rfl (y_pick_f s rfl rfl) fun a s => ?_
 refine qt s hR rfl (y_assign s rfl) fun a s => ?_
 clear hR hZ
 apply pN
 apply wp_ret
 obtain rfl := Option.some.inj hg
 refine fin1 (fn := Tryz.f6) s rfl (r_tmp s rfl) ?_
 exact rfl
end Go.Proofs.YthgdajiipojnoaaGreatDoor
