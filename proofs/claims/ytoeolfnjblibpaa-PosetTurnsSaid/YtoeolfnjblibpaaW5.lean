/- Chapter 03: the walks, part 5 -/
import Derived.Test.YtoeolfnjblibpaaW4
namespace Go.Proofs.Ytoeolfnjblibpaa
open Go.Gl Go.RowKit Try
set_option linter.unusedVariables false
set_option linter.unusedSimpArgs false
set_option maxRecDepth 4000

set_option maxHeartbeats 400000 in
theorem c_law03_exampleHolds (n : Nat) (M : Bs) (w0 : World) (hM : ∀ b, M b → b < w0.heap.size)  (r : Bool) (hg : law03_exampleHolds n = some r) :
    Calls Try.prog 12 [].toArray w0 (Ret noB w0 fun v w => v = .bool (r)) := by
 unfold law03_exampleHolds at hg
 refine enter M noB func12 rfl rfl hM ?_
 intro a s
 apply wR
 refine asg s rfl rfl fun a s => ?_
 apply wN
 apply wQ
 obtain ⟨r2, hr2, hg⟩ := bind_some hg
 obtain ⟨r5, hr5, hg⟩ := bind_some hg
 obtain ⟨r9, hr9, hg⟩ := bind_some hg
 obtain ⟨r13, hr13, hg⟩ := bind_some hg
 apply wL
 refine l_seq rfl (l_buildDense (sz := 1) s 1100 rfl rfl rfl underlying27 rfl rfl rfl rfl rfl rfl rfl fun b17 a w hbb17 hK s => ?_)
 clear hbb17
 replace s := s.add 115 (rdF Rep.str (cellsOfL [vT ([97]), vT ([98])]) ([[97], [98]])) (RdAll.cons (by exact ⟨rfl, (by first | omega | (rw [List.length_append]; omega) | (simp only [List.length_append]; omega) | (simp only [List.length_append, List.length_take, List.length_drop, List.length_cons, List.length_nil]; omega) | exact smin_len (by omega) (by omega))⟩) (RdAll.cons (by exact ⟨rfl, (by first | omega | (rw [List.length_append]; omega) | (simp only [List.length_append]; omega) | (simp only [List.length_append, List.length_take, List.length_drop, List.length_cons, List.length_nil]; omega) | exact smin_len (by omega) (by omega))⟩) (RdAll.nil _ _ _)))
 replace s := s.freeze (R := Rep.str) (kk := 1100) (L' := []) 116 rfl rfl (s.ft 115 rfl) trivial rfl
 refine l_seq rfl (l_call (cap := []) s rfl func30 rfl (by kernel_rfl) rfl rfl (c_law03_decl n _ _ s.lt [99] (by first | omega | (rw [List.length_append]; omega) | (simp only [List.length_append]; omega) | (simp only [List.length_append, List.length_take, List.length_drop, List.length_cons, List.length_nil]; omega) | exact smin_len (by omega) (by omega)) [[97], [98]] (some ⟨b17, 0, none⟩) (2) (s.ft 116 rfl) r2 hr2) fun v18 a w hK hp s => ?_)
 obtain ⟨Au19a2, cu19a2, Au19a3, cu19a3, rfl, lu19a1, hu19a2, hu19a3⟩ := hp
 replace s := s.ns 117 hu19a2
 replace s := s.ns 118 hu19a3
 refine l_seq rfl (l_call (cap := []) s rfl func30 rfl (by kernel_rfl) rfl rfl (c_law03_decl n _ _ s.lt [116] (by first | omega | (rw [List.length_append]; omega) | (simp only [List.length_append]; omega) | (simp only [List.length_append, List.length_take, List.length_drop, List.length_cons, List.length_nil]; omega) | exact smin_len (by omega) (by omega)) [] (none) (0) (SlR.nil_ _ _ _) r5 hr5) fun v20 a w hK hp s => ?_)
 obtain ⟨Au21a2, cu21a2, Au21a3, cu21a3, rfl, lu21a1, hu21a2, hu21a3⟩ := hp
 replace s := s.ns 119 hu21a2
 replace s := s.ns 120 hu21a3
 refine l_seq rfl (l_buildDense (sz := 1) s 1103 rfl rfl rfl underlying27 rfl rfl rfl rfl rfl rfl rfl fun b22 a w hbb22 hK s => ?_)
 clear hbb22
 replace s := s.add 121 (rdF Rep.str (cellsOfL [vT ([116])]) ([[116]])) (RdAll.cons (by exact ⟨rfl, (by first | omega | (rw [List.length_append]; omega) | (simp only [List.length_append]; omega) | (simp only [List.length_append, List.length_take, List.length_drop, List.length_cons, List.length_nil]; omega) | exact smin_len (by omega) (by omega))⟩) (RdAll.nil _ _ _))
 replace s := s.freeze (R := Rep.str) (kk := 1103) (L' := []) 122 rfl rfl (s.ft 121 rfl) trivial rfl
 refine l_seq rfl (l_call (cap := []) s rfl func30 rfl (by kernel_rfl) rfl rfl (c_law03_decl n _ _ s.lt [98] (by first | omega | (rw [List.length_append]; omega) | (simp only [List.length_append]; omega) | (simp only [List.length_append, List.length_take, List.length_drop, List.length_cons, List.length_nil]; omega) | exact smin_len (by omega) (by omega)) [[116]] (some ⟨b22, 0, none⟩) (1) (s.ft 122 rfl) r9 hr9) fun v23 a w hK hp s => ?_)
 obtain ⟨Au24a2, cu24a2, Au24a3, cu24a3, rfl, lu24a1, hu24a2, hu24a3⟩ := hp
 replace s := s.ns 123 hu24a2
 replace s := s.ns 124 hu24a3
 refine l_seq rfl (l_buildDense (sz := 1) s 1105 rfl rfl rfl underlying27 rfl rfl rfl rfl rfl rfl rfl fun b25 a w hbb25 hK s => ?_)
 clear hbb25
 replace s := s.add 125 (rdF Rep.str (cellsOfL [vT ([116])]) ([[116]])) (RdAll.cons (by exact ⟨rfl, (by first | omega | (rw [List.length_append]; omega) | (simp only [List.length_append]; omega) | (simp only [List.length_append, List.length_take, List.length_drop, List.length_cons, List.length_nil]; omega) | exact smin_len (by omega) (by omega))⟩) (RdAll.nil _ _ _))
 replace s := s.freeze (R := Rep.str) (kk := 1105) (L' := []) 126 rfl rfl (s.ft 125 rfl) trivial rfl
 refine l_seq rfl (l_call (cap := []) s rfl func30 rfl (by kernel_rfl) rfl rfl (c_law03_decl n _ _ s.lt [97] (by first | omega | (rw [List.length_append]; omega) | (simp only [List.length_append]; omega) | (simp only [List.length_append, List.length_take, List.length_drop, List.length_cons, List.length_nil]; omega) | exact smin_len (by omega) (by omega)) [[116]] (some ⟨b25, 0, none⟩) (1) (s.ft 126 rfl) r13 hr13) fun v26 a w hK hp s => ?_)
 obtain ⟨Au27a2, cu27a2, Au27a3, cu27a3, rfl, lu27a1, hu27a2, hu27a3⟩ := hp
 replace s := s.ns 127 hu27a2
 replace s := s.ns 128 hu27a3
 refine l_seq rfl (l_buildDense (sz := 3) s 1107 rfl rfl rfl underlying22 rfl rfl rfl rfl rfl rfl rfl fun b28 a w hbb28 hK s => ?_)
 clear hbb28
 refine asg s rfl rfl fun a s => ?_
 apply wN
 apply wQ
 obtain ⟨r29, hr29, hg⟩ := bind_some hg
 apply wL
 refine mv s rfl rfl fun a s => ?_
 replace s := s.add 132 (rdF RTypeDecl (cellsOfL [.agg #[vT (r2.Name), sl Au19a2 (r2.Supers) cu19a2, sl Au19a3 (r2.Feats) cu19a3], .agg #[vT (r5.Name), sl Au21a2 (r5.Supers) cu21a2, sl Au21a3 (r5.Feats) cu21a3], .agg #[vT (r9.Name), sl Au24a2 (r9.Supers) cu24a2, sl Au24a3 (r9.Feats) cu24a3], .agg #[vT (r13.Name), sl Au27a2 (r13.Supers) cu27a2, sl Au27a3 (r13.Feats) cu27a3]]) ([r2, r5, r9, r13])) (RdAll.cons (by exact (RTypeDecl.mk' (x := r2) (by omega) (s.ft 117 rfl) (s.ft 118 rfl))) (RdAll.cons (by exact (RTypeDecl.mk' (x := r5) (by omega) (s.ft 119 rfl) (s.ft 120 rfl))) (RdAll.cons (by exact (RTypeDecl.mk' (x := r9) (by omega) (s.ft 123 rfl) (s.ft 124 rfl))) (RdAll.cons (by exact (RTypeDecl.mk' (x := r13) (by omega) (s.ft 127 rfl) (s.ft 128 rfl))) (RdAll.nil _ _ _)))))
 replace s := s.freeze (R := RTypeDecl) (kk := 1107) (L' := []) 133 rfl rfl (s.ft 132 rfl) trivial rfl
 refine l_seq rfl (l_call (cap := []) s rfl func15 rfl (by kernel_rfl) rfl rfl (c_poset_Order n _ _ s.lt [r2, r5, r9, r13] (some ⟨b28, 0, none⟩) (4) (s.ft 133 rfl) r29 hr29) fun v32 a w hK hp s => ?_)
 obtain ⟨Au33a1, cu33a1, rfl, hu33a1⟩ := hp
 replace s := s.ns 134 hu33a1
 refine mv s rfl rfl fun a s => ?_
 refine qq s rfl (y_extract s rfl rfl) fun a s => ?_
 refine qq s rfl (y_extract s rfl rfl) fun a s => ?_
 refine asg s rfl rfl fun a s => ?_
 refine asg s rfl rfl fun a s => ?_
 apply wN
 apply wQ
 apply wQ
 obtain ⟨k34, hg, hk34⟩ := jn_some hg
 refine c_post (fun a w => ∃ (t_35 : Bool), k34 t_35 = some r ∧ St (⟨Try.f12.ntmps, M, noB, w0⟩ : Ctx) [(1, .slice (some ⟨b28, 0, none⟩) (4) (4)), (39, .bool (t_35))] [] [(133, slF RTypeDecl (some ⟨b28, 0, none⟩) (4) (4) ([r2, r5, r9, r13]))] a w) ?_ ?_
 ·rcases Decidable.em (r29.2 ≠ 0) with hs36 | hs36
  ·have hs36e := decide_eq_true hs36
   replace hg := br_t hg hs36
   apply wL
   refine mv s rfl rfl fun a s => ?_
   refine qq s rfl (yl_b (y_neq s rfl rfl) hs36e) fun a s => ?_
   refine mv s rfl rfl fun a s => ?_
   refine gn s rfl fun a s => ?_
   refine gn s rfl fun a s => ?_
   refine gn s rfl fun a s => ?_
   refine gn s rfl fun a s => ?_
   refine qq s rfl (y_pick_t s rfl rfl) fun a s => ?_
   refine mv s rfl rfl fun a s => ?_
   refine gn s rfl fun a s => ?_
   refine gn s rfl fun a s => ?_
   refine gn s rfl fun a s => ?_
   refine gn s rfl fun a s => ?_
   refine gn s rfl fun a s => ?_
   refine qq s rfl (y_pick_t s rfl rfl) fun a s => ?_
   refine mv s rfl rfl fun a s => ?_
   refine gn s rfl fun a s => ?_
   refine gn s rfl fun a s => ?_
   refine gn s rfl fun a s => ?_
   refine gn s rfl fun a s => ?_
   refine gn s rfl fun a s => ?_
   refine qq s rfl (y_pick_t s rfl rfl) fun a s => ?_
   apply wN
   exact ⟨(true), hg, (s.sb rfl rfl rfl)⟩
  have hs36e := decide_eq_false hs36
  replace hg := br_f hg hs36
  obtain ⟨r38, hr38, hg⟩ := bind_some hg
  rcases Bool.eq_false_or_eq_true (!(r38)) with hs41 | hs41
  ·replace hg := br_t hg hs41
   apply wL
   refine mv s rfl rfl fun a s => ?_
   refine qq s rfl (yl_b (y_neq s rfl rfl) hs36e) fun a s => ?_
   refine mv s rfl rfl fun a s => ?_
   refine gm s rfl rfl fun a s => ?_
   refine gl s rfl (l_buildDense (sz := 1) s 1304 rfl rfl rfl underlying27 rfl rfl rfl rfl rfl rfl rfl fun b42 a w hbb42 hK s => ?_)
   clear hbb42
   replace s := s.add 137 (rdF Rep.str (cellsOfL [vT ([116]), vT ([97]), vT ([98]), vT ([99])]) ([[116], [97], [98], [99]])) (RdAll.cons (by exact ⟨rfl, (by first | omega | (rw [List.length_append]; omega) | (simp only [List.length_append]; omega) | (simp only [List.length_append, List.length_take, List.length_drop, List.length_cons, List.length_nil]; omega) | exact smin_len (by omega) (by omega))⟩) (RdAll.cons (by exact ⟨rfl, (by first | omega | (rw [List.length_append]; omega) | (simp only [List.length_append]; omega) | (simp only [List.length_append, List.length_take, List.length_drop, List.length_cons, List.length_nil]; omega) | exact smin_len (by omega) (by omega))⟩) (RdAll.cons (by exact ⟨rfl, (by first | omega | (rw [List.length_append]; omega) | (simp only [List.length_append]; omega) | (simp only [List.length_append, List.length_take, List.length_drop, List.length_cons, List.length_nil]; omega) | exact smin_len (by omega) (by omega))⟩) (RdAll.cons (by exact ⟨rfl, (by first | omega | (rw [List.length_append]; omega) | (simp only [List.length_append]; omega) | (simp only [List.length_append, List.length_take, List.length_drop, List.length_cons, List.length_nil]; omega) | exact smin_len (by omega) (by omega))⟩) (RdAll.nil _ _ _)))))
   have hT := s
   replace hT := hT.fz (R := Rep.str) (kk := 1304) [] 138 rfl rfl (hT.ft 137 rfl) rfl
   refine gl s rfl (l_call (cap := []) s rfl func17 rfl (by kernel_rfl) rfl rfl (c_r03_SameStrings n _ _ hT.lt r29.1 (Au33a1) (cu33a1) (hT.ft 134 rfl) [[116], [97], [98], [99]] (some ⟨b42, 0, none⟩) (4) (hT.ft 138 rfl) r38 hr38) fun v43 a w hK hp s => ?_)
   obtain rfl := hp
   refine gy s rfl (yl_b (y_not s rfl) hs41) fun a s => ?_
   refine qq s rfl (y_pick_f s rfl rfl) fun a s => ?_
   refine mv s rfl rfl fun a s => ?_
   refine gn s rfl fun a s => ?_
   refine gn s rfl fun a s => ?_
   refine gn s rfl fun a s => ?_
   refine gn s rfl fun a s => ?_
   refine gn s rfl fun a s => ?_
   refine qq s rfl (y_pick_t s rfl rfl) fun a s => ?_
   refine mv s rfl rfl fun a s => ?_
   refine gn s rfl fun a s => ?_
   refine gn s rfl fun a s => ?_
   refine gn s rfl fun a s => ?_
   refine gn s rfl fun a s => ?_
   refine gn s rfl fun a s => ?_
   refine qq s rfl (y_pick_t s rfl rfl) fun a s => ?_
   apply wN
   exact ⟨(true), hg, (s.sb rfl rfl rfl)⟩
  replace hg := br_n hg hs41
  obtain ⟨r45, hr45, hg⟩ := bind_some hg
  obtain ⟨r49, hr49, hg⟩ := bind_some hg
  rcases Bool.eq_false_or_eq_true (!(r49)) with hs52 | hs52
  ·replace hg := br_t hg hs52
   apply wL
   refine mv s rfl rfl fun a s => ?_
   refine qq s rfl (yl_b (y_neq s rfl rfl) hs36e) fun a s => ?_
   refine mv s rfl rfl fun a s => ?_
   refine gm s rfl rfl fun a s => ?_
   refine gl s rfl (l_buildDense (sz := 1) s 1304 rfl rfl rfl underlying27 rfl rfl rfl rfl rfl rfl rfl fun b53 a w hbb53 hK s => ?_)
   clear hbb53
   replace s := s.add 142 (rdF Rep.str (cellsOfL [vT ([116]), vT ([97]), vT ([98]), vT ([99])]) ([[116], [97], [98], [99]])) (RdAll.cons (by exact ⟨rfl, (by first | omega | (rw [List.length_append]; omega) | (simp only [List.length_append]; omega) | (simp only [List.length_append, List.length_take, List.length_drop, List.length_cons, List.length_nil]; omega) | exact smin_len (by omega) (by omega))⟩) (RdAll.cons (by exact ⟨rfl, (by first | omega | (rw [List.length_append]; omega) | (simp only [List.length_append]; omega) | (simp only [List.length_append, List.length_take, List.length_drop, List.length_cons, List.length_nil]; omega) | exact smin_len (by omega) (by omega))⟩) (RdAll.cons (by exact ⟨rfl, (by first | omega | (rw [List.length_append]; omega) | (simp only [List.length_append]; omega) | (simp only [List.length_append, List.length_take, List.length_drop, List.length_cons, List.length_nil]; omega) | exact smin_len (by omega) (by omega))⟩) (RdAll.cons (by exact ⟨rfl, (by first | omega | (rw [List.length_append]; omega) | (simp only [List.length_append]; omega) | (simp only [List.length_append, List.length_take, List.length_drop, List.length_cons, List.length_nil]; omega) | exact smin_len (by omega) (by omega))⟩) (RdAll.nil _ _ _)))))
   have hT := s
   replace hT := hT.fz (R := Rep.str) (kk := 1304) [] 143 rfl rfl (hT.ft 142 rfl) rfl
   refine gl s rfl (l_call (cap := []) s rfl func17 rfl (by kernel_rfl) rfl rfl (c_r03_SameStrings n _ _ hT.lt r29.1 (Au33a1) (cu33a1) (hT.ft 134 rfl) [[116], [97], [98], [99]] (some ⟨b53, 0, none⟩) (4) (hT.ft 143 rfl) r38 hr38) fun v54 a w hK hp s => ?_)
   obtain rfl := hp
   refine gy s rfl (yl_b (y_not s rfl) hs41) fun a s => ?_
   refine qq s rfl (y_pick_f s rfl rfl) fun a s => ?_
   refine mv s rfl rfl fun a s => ?_
   refine gm s rfl rfl fun a s => ?_
   refine gl s rfl (l_call (cap := []) s rfl func20 rfl (by kernel_rfl) rfl rfl (c_poset_Above n _ _ s.lt [r2, r5, r9, r13] (some ⟨b28, 0, none⟩) (4) (s.ft 133 rfl) [99] (by first | omega | (rw [List.length_append]; omega) | (simp only [List.length_append]; omega) | (simp only [List.length_append, List.length_take, List.length_drop, List.length_cons, List.length_nil]; omega) | exact smin_len (by omega) (by omega)) r45 hr45) fun v56 a w hK hp s => ?_)
   obtain ⟨Au57a1, cu57a1, rfl, hu57a1⟩ := hp
   replace s := s.ns 144 hu57a1
   refine gl s rfl (l_buildDense (sz := 1) s 1311 rfl rfl rfl underlying27 rfl rfl rfl rfl rfl rfl rfl fun b58 a w hbb58 hK s => ?_)
   clear hbb58
   replace s := s.add 145 (rdF Rep.str (cellsOfL [vT ([97]), vT ([98]), vT ([99]), vT ([116])]) ([[97], [98], [99], [116]])) (RdAll.cons (by exact ⟨rfl, (by first | omega | (rw [List.length_append]; omega) | (simp only [List.length_append]; omega) | (simp only [List.length_append, List.length_take, List.length_drop, List.length_cons, List.length_nil]; omega) | exact smin_len (by omega) (by omega))⟩) (RdAll.cons (by exact ⟨rfl, (by first | omega | (rw [List.length_append]; omega) | (simp only [List.length_append]; omega) | (simp only [List.length_append, List.length_take, List.length_drop, List.length_cons, List.length_nil]; omega) | exact smin_len (by omega) (by omega))⟩) (RdAll.cons (by exact ⟨rfl, (by first | omega | (rw [List.length_append]; omega) | (simp only [List.length_append]; omega) | (simp only [List.length_append, List.length_take, List.length_drop, List.length_cons, List.length_nil]; omega) | exact smin_len (by omega) (by omega))⟩) (RdAll.cons (by exact ⟨rfl, (by first | omega | (rw [List.length_append]; omega) | (simp only [List.length_append]; omega) | (simp only [List.length_append, List.length_take, List.length_drop, List.length_cons, List.length_nil]; omega) | exact smin_len (by omega) (by omega))⟩) (RdAll.nil _ _ _)))))
   have hT := s
   replace hT := hT.fz (R := Rep.str) (kk := 1311) [1304] 146 rfl rfl (hT.ft 145 rfl) rfl
   refine gl s rfl (l_call (cap := []) s rfl func17 rfl (by kernel_rfl) rfl rfl (c_r03_SameStrings n _ _ hT.lt r45 (Au57a1) (cu57a1) (hT.ft 144 rfl) [[97], [98], [99], [116]] (some ⟨b58, 0, none⟩) (4) (hT.ft 146 rfl) r49 hr49) fun v59 a w hK hp s => ?_)
   obtain rfl := hp
   refine gy s rfl (yl_b (y_not s rfl) hs52) fun a s => ?_
   refine qq s rfl (y_pick_f s rfl rfl) fun a s => ?_
   refine mv s rfl rfl fun a s => ?_
   refine gn s rfl fun a s => ?_
   refine gn s rfl fun a s => ?_
   refine gn s rfl fun a s => ?_
   refine gn s rfl fun a s => ?_
   refine gn s rfl fun a s => ?_
   refine qq s rfl (y_pick_t s rfl rfl) fun a s => ?_
   apply wN
   exact ⟨(true), hg, (s.sb rfl rfl rfl)⟩
  replace hg := br_n hg hs52
  obtain ⟨r61, hr61, hg⟩ := bind_some hg
  obtain ⟨r65, hr65, hg⟩ := bind_some hg
  apply wL
  refine mv s rfl rfl fun a s => ?_
  refine qq s rfl (yl_b (y_neq s rfl rfl) hs36e) fun a s => ?_
  refine mv s rfl rfl fun a s => ?_
  refine gm s rfl rfl fun a s => ?_
  refine gl s rfl (l_buildDense (sz := 1) s 1304 rfl rfl rfl underlying27 rfl rfl rfl rfl rfl rfl rfl fun b68 a w hbb68 hK s => ?_)
  clear hbb68
  replace s := s.add 150 (rdF Rep.str (cellsOfL [vT ([116]), vT ([97]), vT ([98]), vT ([99])]) ([[116], [97], [98], [99]])) (RdAll.cons (by exact ⟨rfl, (by first | omega | (rw [List.length_append]; omega) | (simp only [List.length_append]; omega) | (simp only [List.length_append, List.length_take, List.length_drop, List.length_cons, List.length_nil]; omega) | exact smin_len (by omega) (by omega))⟩) (RdAll.cons (by exact ⟨rfl, (by first | omega | (rw [List.length_append]; omega) | (simp only [List.length_append]; omega) | (simp only [List.length_append, List.length_take, List.length_drop, List.length_cons, List.length_nil]; omega) | exact smin_len (by omega) (by omega))⟩) (RdAll.cons (by exact ⟨rfl, (by first | omega | (rw [List.length_append]; omega) | (simp only [List.length_append]; omega) | (simp only [List.length_append, List.length_take, List.length_drop, List.length_cons, List.length_nil]; omega) | exact smin_len (by omega) (by omega))⟩) (RdAll.cons (by exact ⟨rfl, (by first | omega | (rw [List.length_append]; omega) | (simp only [List.length_append]; omega) | (simp only [List.length_append, List.length_take, List.length_drop, List.length_cons, List.length_nil]; omega) | exact smin_len (by omega) (by omega))⟩) (RdAll.nil _ _ _)))))
  have hT := s
  replace hT := hT.fz (R := Rep.str) (kk := 1304) [] 151 rfl rfl (hT.ft 150 rfl) rfl
  refine gl s rfl (l_call (cap := []) s rfl func17 rfl (by kernel_rfl) rfl rfl (c_r03_SameStrings n _ _ hT.lt r29.1 (Au33a1) (cu33a1) (hT.ft 134 rfl) [[116], [97], [98], [99]] (some ⟨b68, 0, none⟩) (4) (hT.ft 151 rfl) r38 hr38) fun v69 a w hK hp s => ?_)
  obtain rfl := hp
  refine gy s rfl (yl_b (y_not s rfl) hs41) fun a s => ?_
  refine qq s rfl (y_pick_f s rfl rfl) fun a s => ?_
  refine mv s rfl rfl fun a s => ?_
  refine gm s rfl rfl fun a s => ?_
  refine gl s rfl (l_call (cap := []) s rfl func20 rfl (by kernel_rfl) rfl rfl (c_poset_Above n _ _ s.lt [r2, r5, r9, r13] (some ⟨b28, 0, none⟩) (4) (s.ft 133 rfl) [99] (by first | omega | (rw [List.length_append]; omega) | (simp only [List.length_append]; omega) | (simp only [List.length_append, List.length_take, List.length_drop, List.length_cons, List.length_nil]; omega) | exact smin_len (by omega) (by omega)) r45 hr45) fun v71 a w hK hp s => ?_)
  obtain ⟨Au72a1, cu72a1, rfl, hu72a1⟩ := hp
  replace s := s.ns 152 hu72a1
  refine gl s rfl (l_buildDense (sz := 1) s 1311 rfl rfl rfl underlying27 rfl rfl rfl rfl rfl rfl rfl fun b73 a w hbb73 hK s => ?_)
  clear hbb73
  replace s := s.add 153 (rdF Rep.str (cellsOfL [vT ([97]), vT ([98]), vT ([99]), vT ([116])]) ([[97], [98], [99], [116]])) (RdAll.cons (by exact ⟨rfl, (by first | omega | (rw [List.length_append]; omega) | (simp only [List.length_append]; omega) | (simp only [List.length_append, List.length_take, List.length_drop, List.length_cons, List.length_nil]; omega) | exact smin_len (by omega) (by omega))⟩) (RdAll.cons (by exact ⟨rfl, (by first | omega | (rw [List.length_append]; omega) | (simp only [List.length_append]; omega) | (simp only [List.length_append, List.length_take, List.length_drop, List.length_cons, List.length_nil]; omega) | exact smin_len (by omega) (by omega))⟩) (RdAll.cons (by exact ⟨rfl, (by first | omega | (rw [List.length_append]; omega) | (simp only [List.length_append]; omega) | (simp only [List.length_append, List.length_take, List.length_drop, List.length_cons, List.length_nil]; omega) | exact smin_len (by omega) (by omega))⟩) (RdAll.cons (by exact ⟨rfl, (by first | omega | (rw [List.length_append]; omega) | (simp only [List.length_append]; omega) | (simp only [List.length_append, List.length_take, List.length_drop, List.length_cons, List.length_nil]; omega) | exact smin_len (by omega) (by omega))⟩) (RdAll.nil _ _ _)))))
  have hT := s
  replace hT := hT.fz (R := Rep.str) (kk := 1311) [1304] 154 rfl rfl (hT.ft 153 rfl) rfl
  refine gl s rfl (l_call (cap := []) s rfl func17 rfl (by kernel_rfl) rfl rfl (c_r03_SameStrings n _ _ hT.lt r45 (Au72a1) (cu72a1) (hT.ft 152 rfl) [[97], [98], [99], [116]] (some ⟨b73, 0, none⟩) (4) (hT.ft 154 rfl) r49 hr49) fun v74 a w hK hp s => ?_)
  obtain rfl := hp
  refine gy s rfl (yl_b (y_not s rfl) hs52) fun a s => ?_
  refine qq s rfl (y_pick_f s rfl rfl) fun a s => ?_
  refine mv s rfl rfl fun a s => ?_
  refine gm s rfl rfl fun a s => ?_
  refine gl s rfl (l_call (cap := []) s rfl func22 rfl (by kernel_rfl) rfl rfl (c_poset_Below n _ _ s.lt [r2, r5, r9, r13] (some ⟨b28, 0, none⟩) (4) (s.ft 133 rfl) [97] (by first | omega | (rw [List.length_append]; omega) | (simp only [List.length_append]; omega) | (simp only [List.length_append, List.length_take, List.length_drop, List.length_cons, List.length_nil]; omega) | exact smin_len (by omega) (by omega)) r61 hr61) fun v76 a w hK hp s => ?_)
  obtain ⟨Au77a1, cu77a1, rfl, hu77a1⟩ := hp
  replace s := s.ns 155 hu77a1
  refine gl s rfl (l_buildDense (sz := 1) s 1318 rfl rfl rfl underlying27 rfl rfl rfl rfl rfl rfl rfl fun b78 a w hbb78 hK s => ?_)
  clear hbb78
  replace s := s.add 156 (rdF Rep.str (cellsOfL [vT ([97]), vT ([99])]) ([[97], [99]])) (RdAll.cons (by exact ⟨rfl, (by first | omega | (rw [List.length_append]; omega) | (simp only [List.length_append]; omega) | (simp only [List.length_append, List.length_take, List.length_drop, List.length_cons, List.length_nil]; omega) | exact smin_len (by omega) (by omega))⟩) (RdAll.cons (by exact ⟨rfl, (by first | omega | (rw [List.length_append]; omega) | (simp only [List.length_append]; omega) | (simp only [List.length_append, List.length_take, List.length_drop, List.length_cons, List.length_nil]; omega) | exact smin_len (by omega) (by omega))⟩) (RdAll.nil _ _ _)))
  have hT := s
  replace hT := hT.fz (R := Rep.str) (kk := 1318) [1304, 1311] 157 rfl rfl (hT.ft 156 rfl) rfl
  refine gl s rfl (l_call (cap := []) s rfl func17 rfl (by kernel_rfl) rfl rfl (c_r03_SameStrings n _ _ hT.lt r61 (Au77a1) (cu77a1) (hT.ft 155 rfl) [[97], [99]] (some ⟨b78, 0, none⟩) (2) (hT.ft 157 rfl) r65 hr65) fun v79 a w hK hp s => ?_)
  obtain rfl := hp
  refine gy s rfl (y_not s rfl) fun a s => ?_
  refine qq s rfl (y_pick_f s rfl rfl) fun a s => ?_
  apply wN
  exact ⟨(!(r65)), hg, (s.sb rfl rfl rfl)⟩
 clear s a; rintro a w ⟨t_35, hg, s⟩
 subst hk34
 refine c_cond s rfl (fun hc81 => ?_) (fun hc81 => ?_)
 ·replace hg := br_t hg hc81
  apply wR
  refine asg s rfl rfl fun a s => ?_
  apply wN
  apply wp_ret
  refine p_thenR ?_
  obtain rfl := Option.some.inj hg
  refine fin1 (fn := Try.f12) s rfl (r_tmp s rfl) ?_
  exact rfl
 replace hg := br_n hg hc81
 apply wp_skip
 apply pN
 apply wQ
 apply wQ
 obtain ⟨k82, hg, hk82⟩ := jn_some hg
 refine c_post (fun a w => ∃ (t_83 : Bool), k82 t_83 = some r ∧ St (⟨Try.f12.ntmps, M, noB, w0⟩ : Ctx) [(53, .bool (t_83))] [] [] a w) ?_ ?_
 ·obtain ⟨r85, hr85, hg⟩ := bind_some hg
  obtain ⟨r89, hr89, hg⟩ := bind_some hg
  rcases Bool.eq_false_or_eq_true (!(r89)) with hs92 | hs92
  ·replace hg := br_t hg hs92
   apply wL
   refine mv s rfl rfl fun a s => ?_
   refine l_seq rfl (l_buildDense (sz := 1) s 1501 rfl rfl rfl underlying27 rfl rfl rfl rfl rfl rfl rfl fun b93 a w hbb93 hK s => ?_)
   clear hbb93
   replace s := s.add 163 (rdF Rep.str (cellsOfL [vT ([98]), vT ([97]), vT ([99])]) ([[98], [97], [99]])) (RdAll.cons (by exact ⟨rfl, (by first | omega | (rw [List.length_append]; omega) | (simp only [List.length_append]; omega) | (simp only [List.length_append, List.length_take, List.length_drop, List.length_cons, List.length_nil]; omega) | exact smin_len (by omega) (by omega))⟩) (RdAll.cons (by exact ⟨rfl, (by first | omega | (rw [List.length_append]; omega) | (simp only [List.length_append]; omega) | (simp only [List.length_append, List.length_take, List.length_drop, List.length_cons, List.length_nil]; omega) | exact smin_len (by omega) (by omega))⟩) (RdAll.cons (by exact ⟨rfl, (by first | omega | (rw [List.length_append]; omega) | (simp only [List.length_append]; omega) | (simp only [List.length_append, List.length_take, List.length_drop, List.length_cons, List.length_nil]; omega) | exact smin_len (by omega) (by omega))⟩) (RdAll.nil _ _ _))))
   replace s := s.freeze (R := Rep.str) (kk := 1501) (L' := []) 164 rfl rfl (s.ft 163 rfl) trivial rfl
   refine l_seq rfl (l_call (cap := []) s rfl func26 rfl (by kernel_rfl) rfl rfl (c_poset_Minimal n _ _ s.lt [r2, r5, r9, r13] (some ⟨b28, 0, none⟩) (4) (s.ft 133 rfl) [[98], [97], [99]] (some ⟨b93, 0, none⟩) (3) (s.ft 164 rfl) r85 hr85) fun v94 a w hK hp s => ?_)
   obtain ⟨Au95a1, cu95a1, rfl, hu95a1⟩ := hp
   replace s := s.ns 165 hu95a1
   refine l_seq rfl (l_buildDense (sz := 1) s 1503 rfl rfl rfl underlying27 rfl rfl rfl rfl rfl rfl rfl fun b96 a w hbb96 hK s => ?_)
   clear hbb96
   replace s := s.add 166 (rdF Rep.str (cellsOfL [vT ([99])]) ([[99]])) (RdAll.cons (by exact ⟨rfl, (by first | omega | (rw [List.length_append]; omega) | (simp only [List.length_append]; omega) | (simp only [List.length_append, List.length_take, List.length_drop, List.length_cons, List.length_nil]; omega) | exact smin_len (by omega) (by omega))⟩) (RdAll.nil _ _ _))
   have hT := s
   replace hT := hT.fz (R := Rep.str) (kk := 1503) [] 167 rfl rfl (hT.ft 166 rfl) rfl
   refine l_seq rfl (l_call (cap := []) s rfl func17 rfl (by kernel_rfl) rfl rfl (c_r03_SameStrings n _ _ hT.lt r85 (Au95a1) (cu95a1) (hT.ft 165 rfl) [[99]] (some ⟨b96, 0, none⟩) (1) (hT.ft 167 rfl) r89 hr89) fun v97 a w hK hp s => ?_)
   obtain rfl := hp
   refine qq s rfl (yl_b (y_not s rfl) hs92) fun a s => ?_
   refine mv s rfl rfl fun a s => ?_
   refine gn s rfl fun a s => ?_
   refine gn s rfl fun a s => ?_
   refine gn s rfl fun a s => ?_
   refine gn s rfl fun a s => ?_
   refine gn s rfl fun a s => ?_
   refine gn s rfl fun a s => ?_
   refine qq s rfl (y_pick_t s rfl rfl) fun a s => ?_
   apply wN
   exact ⟨(true), hg, (s.sb rfl rfl rfl)⟩
  replace hg := br_n hg hs92
  obtain ⟨r100, hr100, hg⟩ := bind_some hg
  obtain ⟨r104, hr104, hg⟩ := bind_some hg
  apply wL
  refine mv s rfl rfl fun a s => ?_
  refine l_seq rfl (l_buildDense (sz := 1) s 1501 rfl rfl rfl underlying27 rfl rfl rfl rfl rfl rfl rfl fun b107 a w hbb107 hK s => ?_)
  clear hbb107
  replace s := s.add 173 (rdF Rep.str (cellsOfL [vT ([98]), vT ([97]), vT ([99])]) ([[98], [97], [99]])) (RdAll.cons (by exact ⟨rfl, (by first | omega | (rw [List.length_append]; omega) | (simp only [List.length_append]; omega) | (simp only [List.length_append, List.length_take, List.length_drop, List.length_cons, List.length_nil]; omega) | exact smin_len (by omega) (by omega))⟩) (RdAll.cons (by exact ⟨rfl, (by first | omega | (rw [List.length_append]; omega) | (simp only [List.length_append]; omega) | (simp only [List.length_append, List.length_take, List.length_drop, List.length_cons, List.length_nil]; omega) | exact smin_len (by omega) (by omega))⟩) (RdAll.cons (by exact ⟨rfl, (by first | omega | (rw [List.length_append]; omega) | (simp only [List.length_append]; omega) | (simp only [List.length_append, List.length_take, List.length_drop, List.length_cons, List.length_nil]; omega) | exact smin_len (by omega) (by omega))⟩) (RdAll.nil _ _ _))))
  replace s := s.freeze (R := Rep.str) (kk := 1501) (L' := []) 174 rfl rfl (s.ft 173 rfl) trivial rfl
  refine l_seq rfl (l_call (cap := []) s rfl func26 rfl (by kernel_rfl) rfl rfl (c_poset_Minimal n _ _ s.lt [r2, r5, r9, r13] (some ⟨b28, 0, none⟩) (4) (s.ft 133 rfl) [[98], [97], [99]] (some ⟨b107, 0, none⟩) (3) (s.ft 174 rfl) r85 hr85) fun v108 a w hK hp s => ?_)
  obtain ⟨Au109a1, cu109a1, rfl, hu109a1⟩ := hp
  replace s := s.ns 175 hu109a1
  refine l_seq rfl (l_buildDense (sz := 1) s 1503 rfl rfl rfl underlying27 rfl rfl rfl rfl rfl rfl rfl fun b110 a w hbb110 hK s => ?_)
  clear hbb110
  replace s := s.add 176 (rdF Rep.str (cellsOfL [vT ([99])]) ([[99]])) (RdAll.cons (by exact ⟨rfl, (by first | omega | (rw [List.length_append]; omega) | (simp only [List.length_append]; omega) | (simp only [List.length_append, List.length_take, List.length_drop, List.length_cons, List.length_nil]; omega) | exact smin_len (by omega) (by omega))⟩) (RdAll.nil _ _ _))
  have hT := s
  replace hT := hT.fz (R := Rep.str) (kk := 1503) [] 177 rfl rfl (hT.ft 176 rfl) rfl
  refine l_seq rfl (l_call (cap := []) s rfl func17 rfl (by kernel_rfl) rfl rfl (c_r03_SameStrings n _ _ hT.lt r85 (Au109a1) (cu109a1) (hT.ft 175 rfl) [[99]] (some ⟨b110, 0, none⟩) (1) (hT.ft 177 rfl) r89 hr89) fun v111 a w hK hp s => ?_)
  obtain rfl := hp
  refine qq s rfl (yl_b (y_not s rfl) hs92) fun a s => ?_
  refine mv s rfl rfl fun a s => ?_
  refine gm s rfl rfl fun a s => ?_
  refine gl s rfl (l_buildDense (sz := 1) s 1508 rfl rfl rfl underlying27 rfl rfl rfl rfl rfl rfl rfl fun b113 a w hbb113 hK s => ?_)
  clear hbb113
  replace s := s.add 178 (rdF Rep.str (cellsOfL [vT ([99]), vT ([97]), vT ([120]), vT ([97])]) ([[99], [97], [120], [97]])) (RdAll.cons (by exact ⟨rfl, (by first | omega | (rw [List.length_append]; omega) | (simp only [List.length_append]; omega) | (simp only [List.length_append, List.length_take, List.length_drop, List.length_cons, List.length_nil]; omega) | exact smin_len (by omega) (by omega))⟩) (RdAll.cons (by exact ⟨rfl, (by first | omega | (rw [List.length_append]; omega) | (simp only [List.length_append]; omega) | (simp only [List.length_append, List.length_take, List.length_drop, List.length_cons, List.length_nil]; omega) | exact smin_len (by omega) (by omega))⟩) (RdAll.cons (by exact ⟨rfl, (by first | omega | (rw [List.length_append]; omega) | (simp only [List.length_append]; omega) | (simp only [List.length_append, List.length_take, List.length_drop, List.length_cons, List.length_nil]; omega) | exact smin_len (by omega) (by omega))⟩) (RdAll.cons (by exact ⟨rfl, (by first | omega | (rw [List.length_append]; omega) | (simp only [List.length_append]; omega) | (simp only [List.length_append, List.length_take, List.length_drop, List.length_cons, List.length_nil]; omega) | exact smin_len (by omega) (by omega))⟩) (RdAll.nil _ _ _)))))
  replace s := s.freeze (R := Rep.str) (kk := 1508) (L' := [(1503, Ob.row (some ⟨b110, 0, none⟩) (1) (1) 9 1 (cellsOfL [vT ([99])]))]) 179 rfl rfl (s.ft 178 rfl) ⟨rfl, trivial⟩ rfl
  refine gl s rfl (l_call (cap := []) s rfl func24 rfl (by kernel_rfl) rfl rfl (c_poset_Maximal n _ _ s.lt [r2, r5, r9, r13] (some ⟨b28, 0, none⟩) (4) (s.ft 133 rfl) [[99], [97], [120], [97]] (some ⟨b113, 0, none⟩) (4) (s.ft 179 rfl) r100 hr100) fun v114 a w hK hp s => ?_)
  obtain ⟨Au115a1, cu115a1, rfl, hu115a1⟩ := hp
  replace s := s.ns 180 hu115a1
  refine gl s rfl (l_buildDense (sz := 1) s 1510 rfl rfl rfl underlying27 rfl rfl rfl rfl rfl rfl rfl fun b116 a w hbb116 hK s => ?_)
  clear hbb116
  replace s := s.add 181 (rdF Rep.str (cellsOfL [vT ([97])]) ([[97]])) (RdAll.cons (by exact ⟨rfl, (by first | omega | (rw [List.length_append]; omega) | (simp only [List.length_append]; omega) | (simp only [List.length_append, List.length_take, List.length_drop, List.length_cons, List.length_nil]; omega) | exact smin_len (by omega) (by omega))⟩) (RdAll.nil _ _ _))
  have hT := s
  replace hT := hT.fz (R := Rep.str) (kk := 1510) [1503] 182 rfl rfl (hT.ft 181 rfl) rfl
  refine gl s rfl (l_call (cap := []) s rfl func17 rfl (by kernel_rfl) rfl rfl (c_r03_SameStrings n _ _ hT.lt r100 (Au115a1) (cu115a1) (hT.ft 180 rfl) [[97]] (some ⟨b116, 0, none⟩) (1) (hT.ft 182 rfl) r104 hr104) fun v117 a w hK hp s => ?_)
  obtain rfl := hp
  refine gy s rfl (y_not s rfl) fun a s => ?_
  refine qq s rfl (y_pick_f s rfl rfl) fun a s => ?_
  apply wN
  exact ⟨(!(r104)), hg, (s.sb rfl rfl rfl)⟩
 clear s a; rintro a w ⟨t_83, hg, s⟩
 subst hk82
 refine c_cond s rfl (fun hc119 => ?_) (fun hc119 => ?_)
 ·replace hg := br_t hg hc119
  apply wR
  refine asg s rfl rfl fun a s => ?_
  apply wN
  apply wp_ret
  refine p_thenR ?_
  obtain rfl := Option.some.inj hg
  refine fin1 (fn := Try.f12) s rfl (r_tmp s rfl) ?_
  exact rfl
 replace hg := br_n hg hc119
 apply wp_skip
 apply pN
 apply wQ
 obtain ⟨r121, hr121, hg⟩ := bind_some hg
 obtain ⟨r125, hr125, hg⟩ := bind_some hg
 apply wL
 refine l_seq rfl (l_buildDense (sz := 1) s 1700 rfl rfl rfl underlying27 rfl rfl rfl rfl rfl rfl rfl fun b131 a w hbb131 hK s => ?_)
 clear hbb131
 replace s := s.add 193 (rdF Rep.str (cellsOfL [vT ([98])]) ([[98]])) (RdAll.cons (by exact ⟨rfl, (by first | omega | (rw [List.length_append]; omega) | (simp only [List.length_append]; omega) | (simp only [List.length_append, List.length_take, List.length_drop, List.length_cons, List.length_nil]; omega) | exact smin_len (by omega) (by omega))⟩) (RdAll.nil _ _ _))
 replace s := s.freeze (R := Rep.str) (kk := 1700) (L' := []) 194 rfl rfl (s.ft 193 rfl) trivial rfl
 refine l_seq rfl (l_call (cap := []) s rfl func30 rfl (by kernel_rfl) rfl rfl (c_law03_decl n _ _ s.lt [97] (by first | omega | (rw [List.length_append]; omega) | (simp only [List.length_append]; omega) | (simp only [List.length_append, List.length_take, List.length_drop, List.length_cons, List.length_nil]; omega) | exact smin_len (by omega) (by omega)) [[98]] (some ⟨b131, 0, none⟩) (1) (s.ft 194 rfl) r121 hr121) fun v132 a w hK hp s => ?_)
 obtain ⟨Au133a2, cu133a2, Au133a3, cu133a3, rfl, lu133a1, hu133a2, hu133a3⟩ := hp
 replace s := s.ns 195 hu133a2
 replace s := s.ns 196 hu133a3
 refine l_seq rfl (l_buildDense (sz := 1) s 1702 rfl rfl rfl underlying27 rfl rfl rfl rfl rfl rfl rfl fun b134 a w hbb134 hK s => ?_)
 clear hbb134
 replace s := s.add 197 (rdF Rep.str (cellsOfL [vT ([97])]) ([[97]])) (RdAll.cons (by exact ⟨rfl, (by first | omega | (rw [List.length_append]; omega) | (simp only [List.length_append]; omega) | (simp only [List.length_append, List.length_take, List.length_drop, List.length_cons, List.length_nil]; omega) | exact smin_len (by omega) (by omega))⟩) (RdAll.nil _ _ _))
 replace s := s.freeze (R := Rep.str) (kk := 1702) (L' := []) 198 rfl rfl (s.ft 197 rfl) trivial rfl
 refine l_seq rfl (l_call (cap := []) s rfl func30 rfl (by kernel_rfl) rfl rfl (c_law03_decl n _ _ s.lt [98] (by first | omega | (rw [List.length_append]; omega) | (simp only [List.length_append]; omega) | (simp only [List.length_append, List.length_take, List.length_drop, List.length_cons, List.length_nil]; omega) | exact smin_len (by omega) (by omega)) [[97]] (some ⟨b134, 0, none⟩) (1) (s.ft 198 rfl) r125 hr125) fun v135 a w hK hp s => ?_)
 obtain ⟨Au136a2, cu136a2, Au136a3, cu136a3, rfl, lu136a1, hu136a2, hu136a3⟩ := hp
 replace s := s.ns 199 hu136a2
 replace s := s.ns 200 hu136a3
 refine l_seq rfl (l_call (cap := []) s rfl func30 rfl (by kernel_rfl) rfl rfl (c_law03_decl n _ _ s.lt [116] (by first | omega | (rw [List.length_append]; omega) | (simp only [List.length_append]; omega) | (simp only [List.length_append, List.length_take, List.length_drop, List.length_cons, List.length_nil]; omega) | exact smin_len (by omega) (by omega)) [] (none) (0) (SlR.nil_ _ _ _) r5 hr5) fun v137 a w hK hp s => ?_)
 obtain ⟨Au138a2, cu138a2, Au138a3, cu138a3, rfl, lu138a1, hu138a2, hu138a3⟩ := hp
 replace s := s.ns 201 hu138a2
 replace s := s.ns 202 hu138a3
 refine l_seq rfl (l_buildDense (sz := 3) s 1705 rfl rfl rfl underlying22 rfl rfl rfl rfl rfl rfl rfl fun b139 a w hbb139 hK s => ?_)
 clear hbb139
 refine asg s rfl rfl fun a s => ?_
 apply wN
 apply wQ
 obtain ⟨r140, hr140, hg⟩ := bind_some hg
 rcases Decidable.em (r140 = 6) with hs143 | hs143
 ·have hs143e := decide_eq_true hs143
  replace hg := br_t hg hs143
  obtain ⟨hk144, hg⟩ := chk_some hg
  obtain ⟨r145, hr145, hg⟩ := bind_some hg
  rcases Decidable.em (r145 = 1) with hs148 | hs148
  ·have hs148e := decide_eq_true hs148
   replace hg := br_t hg hs148
   obtain ⟨hk149, hg⟩ := chk_some hg
   obtain ⟨r150, hr150, hg⟩ := bind_some hg
   rcases Decidable.em (r150 = 5) with hs153 | hs153
   ·have hs153e := decide_eq_true hs153
    replace hg := br_t hg hs153
    obtain ⟨r154, hr154, hg⟩ := bind_some hg
    apply wL
    refine mv s rfl rfl fun a s => ?_
    replace s := s.add 208 (rdF RTypeDecl (cellsOfL [.agg #[vT (r121.Name), sl Au133a2 (r121.Supers) cu133a2, sl Au133a3 (r121.Feats) cu133a3], .agg #[vT (r125.Name), sl Au136a2 (r125.Supers) cu136a2, sl Au136a3 (r125.Feats) cu136a3], .agg #[vT (r5.Name), sl Au138a2 (r5.Supers) cu138a2, sl Au138a3 (r5.Feats) cu138a3]]) ([r121, r125, r5])) (RdAll.cons (by exact (RTypeDecl.mk' (x := r121) (by omega) (s.ft 195 rfl) (s.ft 196 rfl))) (RdAll.cons (by exact (RTypeDecl.mk' (x := r125) (by omega) (s.ft 199 rfl) (s.ft 200 rfl))) (RdAll.cons (by exact (RTypeDecl.mk' (x := r5) (by omega) (s.ft 201 rfl) (s.ft 202 rfl))) (RdAll.nil _ _ _))))
    have hT := s
    replace hT := hT.fz (R := RTypeDecl) (kk := 1705) [] 209 rfl rfl (hT.ft 208 rfl) rfl
    refine l_seq rfl (l_call (cap := []) s rfl func13 rfl (by kernel_rfl) rfl rfl (c_poset_Check n _ _ hT.lt [r121, r125, r5] (some ⟨b139, 0, none⟩) (3) (hT.ft 209 rfl) r140 hr140) fun v157 a w hK hp s => ?_)
    obtain rfl := hp
    refine qq s rfl (yl_b (y_eql s rfl rfl) hs143e) fun a s => ?_
    refine mv s rfl rfl fun a s => ?_
    refine gm s rfl rfl fun a s => ?_
    replace s := s.freeze (R := RTypeDecl) (kk := 1705) (L' := []) 210 rfl rfl (s.ft 208 rfl) trivial rfl
    have hcap211 := (s.ft 210 rfl).cap
    refine gy s rfl (y_cutH (xs := [r121, r125, r5]) (sz := 3) (i := 2) s rfl rfl underlying22 rfl rfl hk144 hcap211) fun a s => ?_
    replace s := s.add 211 (slF RTypeDecl (some ⟨b139, 0, none⟩) ((([r121, r125, r5]).take 2).length) (3) (([r121, r125, r5]).take 2)) (SlR.cutH (xs := [r121, r125, r5]) (s.ft 210 rfl) 2 hk144)
    refine gl s rfl (l_call (cap := []) s rfl func13 rfl (by kernel_rfl) rfl rfl (c_poset_Check n _ _ s.lt (([r121, r125, r5]).take 2) (some ⟨b139, 0, none⟩) (3) (s.ft 211 rfl) r145 hr145) fun v159 a w hK hp s => ?_)
    obtain rfl := hp
    refine gy s rfl (yl_b (y_eql s rfl rfl) hs148e) fun a s => ?_
    refine qq s rfl (y_pick_t s rfl rfl) fun a s => ?_
    refine mv s rfl rfl fun a s => ?_
    refine gm s rfl rfl fun a s => ?_
    have hcap212 := (s.ft 210 rfl).cap
    refine gy s rfl (y_cutH (xs := [r121, r125, r5]) (sz := 3) (i := 1) s rfl rfl underlying22 rfl rfl hk149 hcap212) fun a s => ?_
    replace s := s.add 212 (slF RTypeDecl (some ⟨b139, 0, none⟩) ((([r121, r125, r5]).take 1).length) (3) (([r121, r125, r5]).take 1)) (SlR.cutH (xs := [r121, r125, r5]) (s.ft 210 rfl) 1 hk149)
    refine gl s rfl (l_call (cap := []) s rfl func13 rfl (by kernel_rfl) rfl rfl (c_poset_Check n _ _ s.lt (([r121, r125, r5]).take 1) (some ⟨b139, 0, none⟩) (3) (s.ft 212 rfl) r150 hr150) fun v161 a w hK hp s => ?_)
    obtain rfl := hp
    refine gy s rfl (yl_b (y_eql s rfl rfl) hs153e) fun a s => ?_
    refine qq s rfl (y_pick_t s rfl rfl) fun a s => ?_
    refine mv s rfl rfl fun a s => ?_
    refine gl s rfl (l_call (cap := []) s rfl func13 rfl (by kernel_rfl) rfl rfl (c_poset_Check n _ _ s.lt [] (none) (0) (SlR.nil_ _ _ _) r154 hr154) fun v163 a w hK hp s => ?_)
    obtain rfl := hp
    refine gy s rfl (y_eql s rfl rfl) fun a s => ?_
    refine qq s rfl (y_pick_t s rfl rfl) fun a s => ?_
    refine asg s rfl rfl fun a s => ?_
    apply wN
    apply wp_ret
    obtain rfl := Option.some.inj hg
    refine fin1 (fn := Try.f12) s rfl (r_tmp s rfl) ?_
    exact rfl
   have hs153e := decide_eq_false hs153
   replace hg := br_f hg hs153
   apply wL
   refine mv s rfl rfl fun a s => ?_
   replace s := s.add 213 (rdF RTypeDecl (cellsOfL [.agg #[vT (r121.Name), sl Au133a2 (r121.Supers) cu133a2, sl Au133a3 (r121.Feats) cu133a3], .agg #[vT (r125.Name), sl Au136a2 (r125.Supers) cu136a2, sl Au136a3 (r125.Feats) cu136a3], .agg #[vT (r5.Name), sl Au138a2 (r5.Supers) cu138a2, sl Au138a3 (r5.Feats) cu138a3]]) ([r121, r125, r5])) (RdAll.cons (by exact (RTypeDecl.mk' (x := r121) (by omega) (s.ft 195 rfl) (s.ft 196 rfl))) (RdAll.cons (by exact (RTypeDecl.mk' (x := r125) (by omega) (s.ft 199 rfl) (s.ft 200 rfl))) (RdAll.cons (by exact (RTypeDecl.mk' (x := r5) (by omega) (s.ft 201 rfl) (s.ft 202 rfl))) (RdAll.nil _ _ _))))
   have hT := s
   replace hT := hT.fz (R := RTypeDecl) (kk := 1705) [] 214 rfl rfl (hT.ft 213 rfl) rfl
   refine l_seq rfl (l_call (cap := []) s rfl func13 rfl (by kernel_rfl) rfl rfl (c_poset_Check n _ _ hT.lt [r121, r125, r5] (some ⟨b139, 0, none⟩) (3) (hT.ft 214 rfl) r140 hr140) fun v165 a w hK hp s => ?_)
   obtain rfl := hp
   refine qq s rfl (yl_b (y_eql s rfl rfl) hs143e) fun a s => ?_
   refine mv s rfl rfl fun a s => ?_
   refine gm s rfl rfl fun a s => ?_
   replace s := s.freeze (R := RTypeDecl) (kk := 1705) (L' := []) 215 rfl rfl (s.ft 213 rfl) trivial rfl
   have hcap216 := (s.ft 215 rfl).cap
   refine gy s rfl (y_cutH (xs := [r121, r125, r5]) (sz := 3) (i := 2) s rfl rfl underlying22 rfl rfl hk144 hcap216) fun a s => ?_
   replace s := s.add 216 (slF RTypeDecl (some ⟨b139, 0, none⟩) ((([r121, r125, r5]).take 2).length) (3) (([r121, r125, r5]).take 2)) (SlR.cutH (xs := [r121, r125, r5]) (s.ft 215 rfl) 2 hk144)
   refine gl s rfl (l_call (cap := []) s rfl func13 rfl (by kernel_rfl) rfl rfl (c_poset_Check n _ _ s.lt (([r121, r125, r5]).take 2) (some ⟨b139, 0, none⟩) (3) (s.ft 216 rfl) r145 hr145) fun v167 a w hK hp s => ?_)
   obtain rfl := hp
   refine gy s rfl (yl_b (y_eql s rfl rfl) hs148e) fun a s => ?_
   refine qq s rfl (y_pick_t s rfl rfl) fun a s => ?_
   refine mv s rfl rfl fun a s => ?_
   refine gm s rfl rfl fun a s => ?_
   have hcap217 := (s.ft 215 rfl).cap
   refine gy s rfl (y_cutH (xs := [r121, r125, r5]) (sz := 3) (i := 1) s rfl rfl underlying22 rfl rfl hk149 hcap217) fun a s => ?_
   replace s := s.add 217 (slF RTypeDecl (some ⟨b139, 0, none⟩) ((([r121, r125, r5]).take 1).length) (3) (([r121, r125, r5]).take 1)) (SlR.cutH (xs := [r121, r125, r5]) (s.ft 215 rfl) 1 hk149)
   refine gl s rfl (l_call (cap := []) s rfl func13 rfl (by kernel_rfl) rfl rfl (c_poset_Check n _ _ s.lt (([r121, r125, r5]).take 1) (some ⟨b139, 0, none⟩) (3) (s.ft 217 rfl) r150 hr150) fun v169 a w hK hp s => ?_)
   obtain rfl := hp
   refine gy s rfl (yl_b (y_eql s rfl rfl) hs153e) fun a s => ?_
   refine qq s rfl (y_pick_t s rfl rfl) fun a s => ?_
   refine mv s rfl rfl fun a s => ?_
   refine gn s rfl fun a s => ?_
   refine gn s rfl fun a s => ?_
   refine qq s rfl (y_pick_f s rfl rfl) fun a s => ?_
   refine asg s rfl rfl fun a s => ?_
   apply wN
   apply wp_ret
   obtain rfl := Option.some.inj hg
   refine fin1 (fn := Try.f12) s rfl (r_tmp s rfl) ?_
   exact rfl
  have hs148e := decide_eq_false hs148
  replace hg := br_f hg hs148
  apply wL
  refine mv s rfl rfl fun a s => ?_
  replace s := s.add 218 (rdF RTypeDecl (cellsOfL [.agg #[vT (r121.Name), sl Au133a2 (r121.Supers) cu133a2, sl Au133a3 (r121.Feats) cu133a3], .agg #[vT (r125.Name), sl Au136a2 (r125.Supers) cu136a2, sl Au136a3 (r125.Feats) cu136a3], .agg #[vT (r5.Name), sl Au138a2 (r5.Supers) cu138a2, sl Au138a3 (r5.Feats) cu138a3]]) ([r121, r125, r5])) (RdAll.cons (by exact (RTypeDecl.mk' (x := r121) (by omega) (s.ft 195 rfl) (s.ft 196 rfl))) (RdAll.cons (by exact (RTypeDecl.mk' (x := r125) (by omega) (s.ft 199 rfl) (s.ft 200 rfl))) (RdAll.cons (by exact (RTypeDecl.mk' (x := r5) (by omega) (s.ft 201 rfl) (s.ft 202 rfl))) (RdAll.nil _ _ _))))
  have hT := s
  replace hT := hT.fz (R := RTypeDecl) (kk := 1705) [] 219 rfl rfl (hT.ft 218 rfl) rfl
  refine l_seq rfl (l_call (cap := []) s rfl func13 rfl (by kernel_rfl) rfl rfl (c_poset_Check n _ _ hT.lt [r121, r125, r5] (some ⟨b139, 0, none⟩) (3) (hT.ft 219 rfl) r140 hr140) fun v171 a w hK hp s => ?_)
  obtain rfl := hp
  refine qq s rfl (yl_b (y_eql s rfl rfl) hs143e) fun a s => ?_
  refine mv s rfl rfl fun a s => ?_
  refine gm s rfl rfl fun a s => ?_
  replace s := s.freeze (R := RTypeDecl) (kk := 1705) (L' := []) 220 rfl rfl (s.ft 218 rfl) trivial rfl
  have hcap221 := (s.ft 220 rfl).cap
  refine gy s rfl (y_cutH (xs := [r121, r125, r5]) (sz := 3) (i := 2) s rfl rfl underlying22 rfl rfl hk144 hcap221) fun a s => ?_
  replace s := s.add 221 (slF RTypeDecl (some ⟨b139, 0, none⟩) ((([r121, r125, r5]).take 2).length) (3) (([r121, r125, r5]).take 2)) (SlR.cutH (xs := [r121, r125, r5]) (s.ft 220 rfl) 2 hk144)
  refine gl s rfl (l_call (cap := []) s rfl func13 rfl (by kernel_rfl) rfl rfl (c_poset_Check n _ _ s.lt (([r121, r125, r5]).take 2) (some ⟨b139, 0, none⟩) (3) (s.ft 221 rfl) r145 hr145) fun v173 a w hK hp s => ?_)
  obtain rfl := hp
  refine gy s rfl (yl_b (y_eql s rfl rfl) hs148e) fun a s => ?_
  refine qq s rfl (y_pick_t s rfl rfl) fun a s => ?_
  refine mv s rfl rfl fun a s => ?_
  refine gn s rfl fun a s => ?_
  refine gn s rfl fun a s => ?_
  refine gn s rfl fun a s => ?_
  refine gn s rfl fun a s => ?_
  refine qq s rfl (y_pick_f s rfl rfl) fun a s => ?_
  refine mv s rfl rfl fun a s => ?_
  refine gn s rfl fun a s => ?_
  refine gn s rfl fun a s => ?_
  refine qq s rfl (y_pick_f s rfl rfl) fun a s => ?_
  refine asg s rfl rfl fun a s => ?_
  apply wN
  apply wp_ret
  obtain rfl := Option.some.inj hg
  refine fin1 (fn := Try.f12) s rfl (r_tmp s rfl) ?_
  exact rfl
 have hs143e := decide_eq_false hs143
 replace hg := br_f hg hs143
 apply wL
 refine mv s rfl rfl fun a s => ?_
 replace s := s.add 222 (rdF RTypeDecl (cellsOfL [.agg #[vT (r121.Name), sl Au133a2 (r121.Supers) cu133a2, sl Au133a3 (r121.Feats) cu133a3], .agg #[vT (r125.Name), sl Au136a2 (r125.Supers) cu136a2, sl Au136a3 (r125.Feats) cu136a3], .agg #[vT (r5.Name), sl Au138a2 (r5.Supers) cu138a2, sl Au138a3 (r5.Feats) cu138a3]]) ([r121, r125, r5])) (RdAll.cons (by exact (RTypeDecl.mk' (x := r121) (by omega) (s.ft 195 rfl) (s.ft 196 rfl))) (RdAll.cons (by exact (RTypeDecl.mk' (x := r125) (by omega) (s.ft 199 rfl) (s.ft 200 rfl))) (RdAll.cons (by exact (RTypeDecl.mk' (x := r5) (by omega) (s.ft 201 rfl) (s.ft 202 rfl))) (RdAll.nil _ _ _))))
 have hT := s
 replace hT := hT.fz (R := RTypeDecl) (kk := 1705) [] 223 rfl rfl (hT.ft 222 rfl) rfl
 refine l_seq rfl (l_call (cap := []) s rfl func13 rfl (by kernel_rfl) rfl rfl (c_poset_Check n _ _ hT.lt [r121, r125, r5] (some ⟨b139, 0, none⟩) (3) (hT.ft 223 rfl) r140 hr140) fun v175 a w hK hp s => ?_)
 obtain rfl := hp
 refine qq s rfl (yl_b (y_eql s rfl rfl) hs143e) fun a s => ?_
 refine mv s rfl rfl fun a s => ?_
 refine gn s rfl fun a s => ?_
 refine gn s rfl fun a s => ?_
 refine gn s rfl fun a s => ?_
 refine gn s rfl fun a s => ?_
 refine qq s rfl (y_pick_f s rfl rfl) fun a s => ?_
 refine mv s rfl rfl fun a s => ?_
 refine gn s rfl fun a s => ?_
 refine gn s rfl fun a s => ?_
 refine gn s rfl fun a s => ?_
 refine gn s rfl fun a s => ?_
 refine qq s rfl (y_pick_f s rfl rfl) fun a s => ?_
 refine mv s rfl rfl fun a s => ?_
 refine gn s rfl fun a s => ?_
 refine gn s rfl fun a s => ?_
 refine qq s rfl (y_pick_f s rfl rfl) fun a s => ?_
 refine asg s rfl rfl fun a s => ?_
 apply wN
 apply wp_ret
 obtain rfl := Option.some.inj hg
 refine fin1 (fn := Try.f12) s rfl (r_tmp s rfl) ?_
 exact rfl
set_option maxHeartbeats 400000 in
theorem c_r03_sizes (n : Nat) (M : Bs) (w0 : World) (hM : ∀ b, M b → b < w0.heap.size) (d_ : (List TypeDecl)) (Ap01 : Option Addr) (cp01 : Nat) (hp01 : SlR RTypeDecl M w0 Ap01 (d_).length cp01 (d_)) (r : Int) (hg : r03_sizes n d_ = some r) :
    Calls Try.prog 35 [.slice (Ap01) ((d_).length) (cp01)].toArray w0 (Ret noB w0 fun v w => v = .int .i64 (r)) := by
 unfold r03_sizes at hg
 refine enter M noB func35 rfl rfl hM ?_
 intro a s
 replace s := s.es 101 hp01
 apply wR
 refine asg s rfl rfl fun a s => ?_
 apply wN
 apply wQ
 apply wR
 refine mv s rfl rfl fun a s => ?_
 refine qq s rfl (y_lenSlice s rfl underlying22) fun a s => ?_
 refine qq s rfl (y_gtrN (i := ((d_).length)) (j := 256) s rfl rfl) fun a s => ?_
 apply wN
 refine c_dec s rfl (fun hc1 => ?_) (fun hc1 => ?_)
 ·replace hg := br_t hg hc1
  have hmx2 := SlR.mx (s.ft 101 rfl)
  apply wR
  refine asg s rfl rfl fun a s => ?_
  apply wN
  apply wp_ret
  refine p_thenR ?_
  obtain rfl := Option.some.inj hg
  refine fin1 (fn := Try.f35) s rfl (r_tmp s rfl) ?_
  exact rfl
 replace hg := br_f hg hc1
 apply wp_skip
 apply pN
 apply wQ
 apply wR
 refine asg s rfl rfl fun a s => ?_
 apply wN
 apply wp_block
 refine c_loop (σ := Nat) (fun m1 a w => ∃ (i_3 : Nat), r03_sizes_L0 n d_ m1 i_3 = some r ∧ St (⟨Try.f35.ntmps, M, noB, w0⟩ : Ctx) [(0, sl Ap01 (d_) cp01), (3, vI (((i_3 : Nat) : Int)))] [] [(101, slF RTypeDecl (Ap01) ((d_).length) (cp01) (d_))] a w) (fun m1 => m1) n ⟨(0), hg, (s.sb rfl rfl rfl)⟩ ?_
 clear s a; rintro m1 a w ⟨i_3, hg, s⟩
 rcases m1 with _ | m1
 ·rw [r03_sizes_L0] at hg; cases hg
 rw [r03_sizes_L0] at hg
 apply wQ
 apply wR
 refine mv s rfl rfl fun a s => ?_
 refine mv s rfl rfl fun a s => ?_
 refine qq s rfl (y_lenSlice s rfl underlying22) fun a s => ?_
 refine qq s rfl (y_lssN (i := i_3) (j := ((d_).length)) s rfl rfl) fun a s => ?_
 apply wN
 refine c_dec s rfl (fun hc4 => ?_) (fun hc4 => ?_)
 ·replace hg := br_t hg hc4
  have hmx5 := SlR.mx (s.ft 101 rfl)
  apply wp_skip
  apply pN
  apply wQ
  apply wp_block
  apply wQ
  obtain ⟨k6, hg, hk6⟩ := jn_some hg
  refine c_post (fun a w => ∃ (t_7 : Bool), k6 t_7 = some r ∧ St (⟨Try.f35.ntmps, M, noB, w0⟩ : Ctx) [(0, sl Ap01 (d_) cp01), (3, vI (((i_3 : Nat) : Int))), (28, .bool (t_7))] [] [(101, slF RTypeDecl (Ap01) ((d_).length) (cp01) (d_))] a w) ?_ ?_
  ·obtain ⟨x9, hx9, hg⟩ := bind_some hg
   rcases Decidable.em ((256 : Nat) < ((x9.Supers).length)) with hs11 | hs11
   ·have hs11e := decide_eq_true hs11
    replace hg := br_t hg hs11
    apply wL
    refine mv s rfl rfl fun a s => ?_
    refine mv s rfl rfl fun a s => ?_
    obtain ⟨p12, hep12, hpp12⟩ := SlR.elemX (s.ft 101 rfl) hx9
    refine qq s rfl (y_elem (sz := 3) (i := i_3) s rfl rfl underlying22 rfl hep12 rfl (lt_of_get hx9)) fun a s => ?_
    refine qq s rfl (y_ptrField (o' := 1) s rfl underlying40 rfl rfl rfl) fun a s => ?_
    obtain ⟨hlq13, hmq13, csq13, hdq13, hcq13⟩ := hpp12
    obtain ⟨Aq132, cq132, Aq133, cq133, rfl, lq131, hq132, hq133⟩ := RTypeDecl.open hdq13
    replace s := s.ns 104 hq132
    replace s := s.ns 105 hq133
    refine qq s rfl (y_ldp1 s rfl hlq13 hmq13 (hcq13 1 _ rfl) underlying27 rfl) fun a s => ?_
    refine qq s rfl (y_lenSlice s rfl underlying27) fun a s => ?_
    refine qq s rfl (yl_b (y_gtrN (i := ((x9.Supers).length)) (j := 256) s rfl rfl) hs11e) fun a s => ?_
    refine mv s rfl rfl fun a s => ?_
    refine gn s rfl fun a s => ?_
    refine gn s rfl fun a s => ?_
    refine gn s rfl fun a s => ?_
    refine gn s rfl fun a s => ?_
    refine gn s rfl fun a s => ?_
    refine gn s rfl fun a s => ?_
    refine gn s rfl fun a s => ?_
    refine qq s rfl (y_pick_t s rfl rfl) fun a s => ?_
    apply wN
    exact ⟨(true), hg, (s.sb rfl rfl rfl)⟩
   have hs11e := decide_eq_false hs11
   replace hg := br_f hg hs11
   apply wL
   refine mv s rfl rfl fun a s => ?_
   refine mv s rfl rfl fun a s => ?_
   obtain ⟨p16, hep16, hpp16⟩ := SlR.elemX (s.ft 101 rfl) hx9
   refine qq s rfl (y_elem (sz := 3) (i := i_3) s rfl rfl underlying22 rfl hep16 rfl (lt_of_get hx9)) fun a s => ?_
   refine qq s rfl (y_ptrField (o' := 1) s rfl underlying40 rfl rfl rfl) fun a s => ?_
   obtain ⟨hlq17, hmq17, csq17, hdq17, hcq17⟩ := hpp16
   obtain ⟨Aq172, cq172, Aq173, cq173, rfl, lq171, hq172, hq173⟩ := RTypeDecl.open hdq17
   replace s := s.ns 108 hq172
   replace s := s.ns 109 hq173
   refine qq s rfl (y_ldp1 s rfl hlq17 hmq17 (hcq17 1 _ rfl) underlying27 rfl) fun a s => ?_
   refine qq s rfl (y_lenSlice s rfl underlying27) fun a s => ?_
   refine qq s rfl (yl_b (y_gtrN (i := ((x9.Supers).length)) (j := 256) s rfl rfl) hs11e) fun a s => ?_
   refine mv s rfl rfl fun a s => ?_
   refine gm s rfl rfl fun a s => ?_
   refine gm s rfl rfl fun a s => ?_
   obtain ⟨p18, hep18, hpp18⟩ := SlR.elemX (s.ft 101 rfl) hx9
   refine gy s rfl (y_elem (sz := 3) (i := i_3) s rfl rfl underlying22 rfl hep18 rfl (lt_of_get hx9)) fun a s => ?_
   refine gy s rfl (y_ptrField (o' := 2) s rfl underlying40 rfl rfl rfl) fun a s => ?_
   obtain ⟨hlq19, hmq19, csq19, hdq19, hcq19⟩ := hpp18
   obtain ⟨Aq192, cq192, Aq193, cq193, rfl, lq191, hq192, hq193⟩ := RTypeDecl.open hdq19
   replace s := s.ns 110 hq192
   replace s := s.ns 111 hq193
   refine gy s rfl (y_ldp1 s rfl hlq19 hmq19 (hcq19 2 _ rfl) underlying38 rfl) fun a s => ?_
   refine gy s rfl (y_lenSlice s rfl underlying38) fun a s => ?_
   refine gy s rfl (y_gtrN (i := ((x9.Feats).length)) (j := 256) s rfl rfl) fun a s => ?_
   refine qq s rfl (y_pick_f s rfl rfl) fun a s => ?_
   apply wN
   exact ⟨(decide ((256 : Nat) < ((x9.Feats).length))), hg, (s.sb rfl rfl rfl)⟩
  clear s a; rintro a w ⟨t_7, hg, s⟩
  subst hk6
  refine c_cond s rfl (fun hc20 => ?_) (fun hc20 => ?_)
  ·replace hg := br_t hg hc20
   apply wR
   refine asg s rfl rfl fun a s => ?_
   apply wN
   apply wp_ret
   refine p_inR ?_
   refine p_thenR ?_
   refine p_thenR ?_
   refine p_inR ?_
   refine p_thenR ?_
   obtain rfl := Option.some.inj hg
   refine fin1 (fn := Try.f35) s rfl (r_tmp s rfl) ?_
   exact rfl
  replace hg := br_n hg hc20
  apply wp_skip
  refine p_inN ?_
  apply pN
  apply wL
  refine mv s rfl rfl fun a s => ?_
  refine qq s rfl (y_addN (i := i_3) (j := 1) s rfl rfl (in64.2 (by omega))) fun a s => ?_
  refine asg s rfl rfl fun a s => ?_
  apply wN
  exact ⟨m1, Nat.lt_succ_self _, ⟨(i_3 + 1), hg, (s.sb rfl rfl rfl)⟩⟩
 replace hg := br_f hg hc4
 apply wp_exit
 refine p_then ?_
 refine p_then ?_
 refine p_in ?_
 apply pN
 apply wR
 refine asg s rfl rfl fun a s => ?_
 apply wN
 apply wp_ret
 obtain rfl := Option.some.inj hg
 refine fin1 (fn := Try.f35) s rfl (r_tmp s rfl) ?_
 exact rfl
set_option maxHeartbeats 400000 in
theorem c_r03_find (n : Nat) (M : Bs) (w0 : World) (hM : ∀ b, M b → b < w0.heap.size) (d_ : (List TypeDecl)) (Ap01 : Option Addr) (cp01 : Nat) (hp01 : SlR RTypeDecl M w0 Ap01 (d_).length cp01 (d_)) (name_ : (List UInt8)) (lp11 : (name_).length ≤ 9223372036854775807) (r : Int) (hg : r03_find n d_ name_ = some r) :
    Calls Try.prog 42 [.slice (Ap01) ((d_).length) (cp01), .string (bs (name_))].toArray w0 (Ret noB w0 fun v w => v = .int .i64 (r)) := by
 unfold r03_find at hg
 refine enter M noB func42 rfl rfl hM ?_
 intro a s
 replace s := s.es 101 hp01
 apply wR
 refine asg s rfl rfl fun a s => ?_
 apply wN
 apply wQ
 apply wR
 refine asg s rfl rfl fun a s => ?_
 apply wN
 apply wp_block
 refine c_loop (σ := Nat) (fun m1 a w => ∃ (i_1 : Nat), r03_find_L0 n d_ name_ m1 i_1 = some r ∧ St (⟨Try.f42.ntmps, M, noB, w0⟩ : Ctx) [(0, sl Ap01 (d_) cp01), (1, vT name_), (5, vI (((i_1 : Nat) : Int)))] [] [(101, slF RTypeDecl (Ap01) ((d_).length) (cp01) (d_))] a w) (fun m1 => m1) n ⟨(0), hg, (s.sb rfl rfl rfl)⟩ ?_
 clear s a; rintro m1 a w ⟨i_1, hg, s⟩
 rcases m1 with _ | m1
 ·rw [r03_find_L0] at hg; cases hg
 rw [r03_find_L0] at hg
 apply wQ
 apply wR
 refine mv s rfl rfl fun a s => ?_
 refine mv s rfl rfl fun a s => ?_
 refine qq s rfl (y_lenSlice s rfl underlying22) fun a s => ?_
 refine qq s rfl (y_lssN (i := i_1) (j := ((d_).length)) s rfl rfl) fun a s => ?_
 apply wN
 refine c_dec s rfl (fun hc2 => ?_) (fun hc2 => ?_)
 ·replace hg := br_t hg hc2
  have hmx3 := SlR.mx (s.ft 101 rfl)
  apply wp_skip
  apply pN
  apply wQ
  apply wp_block
  apply wQ
  obtain ⟨x5, hx5, hg⟩ := bind_some hg
  apply wL
  refine mv s rfl rfl fun a s => ?_
  refine mv s rfl rfl fun a s => ?_
  obtain ⟨p7, hep7, hpp7⟩ := SlR.elemX (s.ft 101 rfl) hx5
  refine qq s rfl (y_elem (sz := 3) (i := i_1) s rfl rfl underlying22 rfl hep7 rfl (lt_of_get hx5)) fun a s => ?_
  refine qq s rfl (y_ptrField (o' := 0) s rfl underlying40 rfl rfl rfl) fun a s => ?_
  obtain ⟨hlq8, hmq8, csq8, hdq8, hcq8⟩ := hpp7
  obtain ⟨Aq82, cq82, Aq83, cq83, rfl, lq81, hq82, hq83⟩ := RTypeDecl.open hdq8
  replace s := s.ns 104 hq82
  replace s := s.ns 105 hq83
  refine qq s rfl (y_ldp1 s rfl hlq8 hmq8 (hcq8 0 _ rfl) underlying9 rfl) fun a s => ?_
  refine mv s rfl rfl fun a s => ?_
  refine qq s rfl (y_seq s rfl rfl) fun a s => ?_
  apply wN
  refine c_dec s rfl (fun hc9 => ?_) (fun hc9 => ?_)
  ·replace hg := br_t hg hc9
   apply wR
   refine mv s rfl rfl fun a s => ?_
   refine asg s rfl rfl fun a s => ?_
   apply wN
   apply wp_ret
   refine p_inR ?_
   refine p_thenR ?_
   refine p_thenR ?_
   refine p_inR ?_
   refine p_thenR ?_
   obtain rfl := Option.some.inj hg
   refine fin1 (fn := Try.f42) s rfl (r_tmp s rfl) ?_
   exact rfl
  replace hg := br_f hg hc9
  apply wp_skip
  refine p_inN ?_
  apply pN
  apply wL
  refine mv s rfl rfl fun a s => ?_
  refine qq s rfl (y_addN (i := i_1) (j := 1) s rfl rfl (in64.2 (by omega))) fun a s => ?_
  refine asg s rfl rfl fun a s => ?_
  apply wN
  exact ⟨m1, Nat.lt_succ_self _, ⟨(i_1 + 1), hg, (s.sb rfl rfl rfl)⟩⟩
 replace hg := br_f hg hc2
 apply wp_exit
 refine p_then ?_
 refine p_then ?_
 refine p_in ?_
 apply pN
 apply wR
 refine asg s rfl rfl fun a s => ?_
 apply wN
 apply wp_ret
 obtain rfl := Option.some.inj hg
 refine fin1 (fn := Try.f42) s rfl (r_tmp s rfl) ?_
 exact rfl
set_option maxHeartbeats 400000 in
theorem c_r01_digit (n : Nat) (M : Bs) (w0 : World) (hM : ∀ b, M b → b < w0.heap.size) (c_ : UInt8) (r : Bool) (hg : r01_digit n c_ = some r) :
    Calls Try.prog 68 [.int .u8 (((c_.toNat : Nat) : Int))].toArray w0 (Ret noB w0 fun v w => v = .bool (r)) := by
 unfold r01_digit at hg
 refine enter M noB func68 rfl rfl hM ?_
 intro a s
 apply wR
 refine asg s rfl rfl fun a s => ?_
 apply wN
 apply wQ
 rcases Decidable.em ((48 : Nat) ≤ c_.toNat) with hs1 | hs1
 ·have hs1e := decide_eq_true hs1
  replace hg := br_t hg hs1
  apply wL
  refine mv s rfl rfl fun a s => ?_
  refine qq s rfl (yl_b (y_geqN (i := c_.toNat) (j := 48) s rfl rfl) hs1e) fun a s => ?_
  refine mv s rfl rfl fun a s => ?_
  refine gm s rfl rfl fun a s => ?_
  refine gy s rfl (y_leqN (i := c_.toNat) (j := 57) s rfl rfl) fun a s => ?_
  refine qq s rfl (y_pick_t s rfl rfl) fun a s => ?_
  refine asg s rfl rfl fun a s => ?_
  apply wN
  apply wp_ret
  obtain rfl := Option.some.inj hg
  refine fin1 (fn := Try.f68) s rfl (r_tmp s rfl) ?_
  exact rfl
 have hs1e := decide_eq_false hs1
 replace hg := br_f hg hs1
 apply wL
 refine mv s rfl rfl fun a s => ?_
 refine qq s rfl (yl_b (y_geqN (i := c_.toNat) (j := 48) s rfl rfl) hs1e) fun a s => ?_
 refine mv s rfl rfl fun a s => ?_
 refine gn s rfl fun a s => ?_
 refine gn s rfl fun a s => ?_
 refine qq s rfl (y_pick_f s rfl rfl) fun a s => ?_
 refine asg s rfl rfl fun a s => ?_
 apply wN
 apply wp_ret
 obtain rfl := Option.some.inj hg
 refine fin1 (fn := Try.f68) s rfl (r_tmp s rfl) ?_
 exact rfl
end Go.Proofs.Ytoeolfnjblibpaa
