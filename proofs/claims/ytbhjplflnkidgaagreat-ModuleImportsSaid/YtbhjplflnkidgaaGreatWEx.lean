/- Chapter 22: the walk of the examples -/
import Derived.Test.YtbhjplflnkidgaaGreatWLink
namespace Go.Proofs.YtbhjplflnkidgaaGreat
open Go.Gl Go.RowKit Tryz
set_option linter.unusedVariables false
set_option linter.unusedSimpArgs false
set_option maxRecDepth 4000

set_option maxHeartbeats 1000000 in
theorem c_law22_exampleHolds (n : Nat) (M : Bs) (w0 : World) (hM : ∀ b, M b → b < w0.heap.size)  (r : Bool) (hg : law22_exampleHolds n = some r) :
    Calls Tryz.prog 11 [].toArray w0 (Ret noB w0 fun v w => v = .bool (r)) := by
 unfold law22_exampleHolds at hg
 refine enter M noB func11 rfl rfl hM ?_
 intro a s
 refine S s <| vw <| aw rfl <| nw <| vw fun a s => ?_
 refine l_seq rfl (l_buildDense (sz := 1) s 1100 rfl rfl rfl underlying25 rfl rfl rfl rfl rfl rfl rfl fun b10 a w hbb10 hK s => ?_)
 clear hbb10
 refine l_seq rfl (l_buildDense (sz := 1) s 1101 rfl rfl rfl underlying25 rfl rfl rfl rfl rfl rfl rfl fun b11 a w hbb11 hK s => ?_)
 clear hbb11
 replace s := s.add 117 (rdF Rep.str (cellsOfL [vT ([121])]) ([[121]])) (RdAll.cons (by exact ⟨rfl, (Nat.le_of_ble_eq_true (by rfl))⟩) (RdAll.nil _ _ _))
 replace s := s.freeze (R := Rep.str) (kk := 1101) (L' := [(1100, Ob.row (some ⟨b10, 0, none⟩) (2) (2) 9 1 (cellsOfL [vT ([98]), vT ([99])]))]) 118 rfl rfl (s.ft 117 rfl) ⟨rfl, trivial⟩ rfl
 refine qq s rfl (y_build (parts := [(0, .const (vT ([120]))), (1, .tmp 12)]) (ps := [(0, vT ([120])), (1, .slice (some ⟨b11, 0, none⟩) (1) (1))]) (cells := #[vT ([120]), .slice (some ⟨b11, 0, none⟩) (1) (1), .slice none 0 0]) s rfl (by kernel_rfl)) fun a s => ?_
 refine l_seq rfl (l_buildDense (sz := 3) s 1103 rfl rfl rfl underlying32 rfl rfl rfl rfl rfl rfl rfl fun b12 a w hbb12 hK s => ?_)
 clear hbb12
 replace s := s.add 119 (rdF Rep.str (cellsOfL [vT ([98]), vT ([99])]) ([[98], [99]])) (RdAll.cons (by exact ⟨rfl, (Nat.le_of_ble_eq_true (by rfl))⟩) (RdAll.cons (by exact ⟨rfl, (Nat.le_of_ble_eq_true (by rfl))⟩) (RdAll.nil _ _ _)))
 replace s := s.freeze (R := Rep.str) (kk := 1100) (L' := [(1103, Ob.row (some ⟨b12, 0, none⟩) (1) (1) 49 3 (cellsOfL [.agg #[vT ([120]), .slice (some ⟨b11, 0, none⟩) (1) (1), .slice none 0 0]]))]) 120 rfl rfl (s.ft 119 rfl) ⟨rfl, trivial⟩ rfl
 replace s := s.add 121 (rdF RTypeDecl (cellsOfL [.agg #[vT ([120]), .slice (some ⟨b11, 0, none⟩) (1) (1), .slice none 0 0]]) ([(TypeDecl.mk [120] [[121]] [])])) (RdAll.cons (by exact (RTypeDecl.mk' (x := (TypeDecl.mk [120] [[121]] [])) (Nat.le_of_ble_eq_true (by rfl)) (s.ft 118 rfl) (SlR.nil_ _ _ _))) (RdAll.nil _ _ _))
 replace s := s.freeze (R := RTypeDecl) (kk := 1103) (L' := []) 122 rfl rfl (s.ft 121 rfl) trivial rfl
 refine qq s rfl (y_build (parts := [(0, .const (vT ([97]))), (1, .tmp 11), (2, .tmp 14)]) (ps := [(0, vT ([97])), (1, .slice (some ⟨b10, 0, none⟩) (2) (2)), (2, .slice (some ⟨b12, 0, none⟩) (1) (1))]) (cells := #[vT ([97]), .slice (some ⟨b10, 0, none⟩) (2) (2), .slice (some ⟨b12, 0, none⟩) (1) (1), .slice none 0 0, .slice none 0 0, .slice none 0 0, .slice none 0 0, .slice none 0 0, .slice none 0 0, .slice none 0 0]) s rfl (by kernel_rfl)) fun a s => ?_
 refine l_seq rfl (l_buildDense (sz := 1) s 1105 rfl rfl rfl underlying25 rfl rfl rfl rfl rfl rfl rfl fun b13 a w hbb13 hK s => ?_)
 clear hbb13
 replace s := s.add 123 (rdF Rep.str (cellsOfL [vT ([99])]) ([[99]])) (RdAll.cons (by exact ⟨rfl, (Nat.le_of_ble_eq_true (by rfl))⟩) (RdAll.nil _ _ _))
 replace s := s.freeze (R := Rep.str) (kk := 1105) (L' := []) 124 rfl rfl (s.ft 123 rfl) trivial rfl
 refine qq s rfl (y_build (parts := [(0, .const (vT ([98]))), (1, .tmp 16)]) (ps := [(0, vT ([98])), (1, .slice (some ⟨b13, 0, none⟩) (1) (1))]) (cells := #[vT ([98]), .slice (some ⟨b13, 0, none⟩) (1) (1), .slice none 0 0, .slice none 0 0, .slice none 0 0, .slice none 0 0, .slice none 0 0, .slice none 0 0, .slice none 0 0, .slice none 0 0]) s rfl (by kernel_rfl)) fun a s => ?_
 refine l_seq rfl (l_buildDense (sz := 1) s 1107 rfl rfl rfl underlying25 rfl rfl rfl rfl rfl rfl rfl fun b14 a w hbb14 hK s => ?_)
 clear hbb14
 replace s := s.add 125 (rdF Rep.str (cellsOfL [vT ([116, 111, 112])]) ([[116, 111, 112]])) (RdAll.cons (by exact ⟨rfl, (Nat.le_of_ble_eq_true (by rfl))⟩) (RdAll.nil _ _ _))
 replace s := s.freeze (R := Rep.str) (kk := 1107) (L' := []) 126 rfl rfl (s.ft 125 rfl) trivial rfl
 refine qq s rfl (y_build (parts := [(0, .const (vT ([121]))), (1, .tmp 18)]) (ps := [(0, vT ([121])), (1, .slice (some ⟨b14, 0, none⟩) (1) (1))]) (cells := #[vT ([121]), .slice (some ⟨b14, 0, none⟩) (1) (1), .slice none 0 0]) s rfl (by kernel_rfl)) fun a s => ?_
 refine l_seq rfl (l_buildDense (sz := 3) s 1109 rfl rfl rfl underlying32 rfl rfl rfl rfl rfl rfl rfl fun b15 a w hbb15 hK s => ?_)
 clear hbb15
 replace s := s.add 127 (rdF RTypeDecl (cellsOfL [.agg #[vT ([121]), .slice (some ⟨b14, 0, none⟩) (1) (1), .slice none 0 0]]) ([(TypeDecl.mk [121] [[116, 111, 112]] [])])) (RdAll.cons (by exact (RTypeDecl.mk' (x := (TypeDecl.mk [121] [[116, 111, 112]] [])) (Nat.le_of_ble_eq_true (by rfl)) (s.ft 126 rfl) (SlR.nil_ _ _ _))) (RdAll.nil _ _ _))
 replace s := s.freeze (R := RTypeDecl) (kk := 1109) (L' := []) 128 rfl rfl (s.ft 127 rfl) trivial rfl
 refine qq s rfl (y_build (parts := [(0, .const (vT ([99]))), (2, .tmp 20)]) (ps := [(0, vT ([99])), (2, .slice (some ⟨b15, 0, none⟩) (1) (1))]) (cells := #[vT ([99]), .slice none 0 0, .slice (some ⟨b15, 0, none⟩) (1) (1), .slice none 0 0, .slice none 0 0, .slice none 0 0, .slice none 0 0, .slice none 0 0, .slice none 0 0, .slice none 0 0]) s rfl (by kernel_rfl)) fun a s => ?_
 refine l_seq rfl (l_buildDense (sz := 1) s 1111 rfl rfl rfl underlying25 rfl rfl rfl rfl rfl rfl rfl fun b16 a w hbb16 hK s => ?_)
 clear hbb16
 replace s := s.add 129 (rdF Rep.str (cellsOfL [vT ([121])]) ([[121]])) (RdAll.cons (by exact ⟨rfl, (Nat.le_of_ble_eq_true (by rfl))⟩) (RdAll.nil _ _ _))
 replace s := s.freeze (R := Rep.str) (kk := 1111) (L' := []) 130 rfl rfl (s.ft 129 rfl) trivial rfl
 refine qq s rfl (y_build (parts := [(0, .const (vT ([122]))), (1, .tmp 22)]) (ps := [(0, vT ([122])), (1, .slice (some ⟨b16, 0, none⟩) (1) (1))]) (cells := #[vT ([122]), .slice (some ⟨b16, 0, none⟩) (1) (1), .slice none 0 0]) s rfl (by kernel_rfl)) fun a s => ?_
 refine l_seq rfl (l_buildDense (sz := 3) s 1113 rfl rfl rfl underlying32 rfl rfl rfl rfl rfl rfl rfl fun b17 a w hbb17 hK s => ?_)
 clear hbb17
 replace s := s.add 131 (rdF RTypeDecl (cellsOfL [.agg #[vT ([122]), .slice (some ⟨b16, 0, none⟩) (1) (1), .slice none 0 0]]) ([(TypeDecl.mk [122] [[121]] [])])) (RdAll.cons (by exact (RTypeDecl.mk' (x := (TypeDecl.mk [122] [[121]] [])) (Nat.le_of_ble_eq_true (by rfl)) (s.ft 130 rfl) (SlR.nil_ _ _ _))) (RdAll.nil _ _ _))
 replace s := s.freeze (R := RTypeDecl) (kk := 1113) (L' := []) 132 rfl rfl (s.ft 131 rfl) trivial rfl
 refine qq s rfl (y_build (parts := [(0, .const (vT ([100]))), (2, .tmp 24)]) (ps := [(0, vT ([100])), (2, .slice (some ⟨b17, 0, none⟩) (1) (1))]) (cells := #[vT ([100]), .slice none 0 0, .slice (some ⟨b17, 0, none⟩) (1) (1), .slice none 0 0, .slice none 0 0, .slice none 0 0, .slice none 0 0, .slice none 0 0, .slice none 0 0, .slice none 0 0]) s rfl (by kernel_rfl)) fun a s => ?_
 refine l_seq rfl (l_buildDense (sz := 10) s 1115 rfl rfl rfl underlying22 rfl rfl rfl rfl rfl rfl rfl fun b18 a w hbb18 hK s => ?_)
 clear hbb18
 obtain ⟨r19, hr19, hg⟩ := bind_some hg
 refine S s <| aw rfl <| nw <| sw <| lw <| mw rfl fun a s => ?_
 replace s := s.add 136 (rdF RModule (cellsOfL [.agg #[vT ([97]), .slice (some ⟨b10, 0, none⟩) (2) (2), .slice (some ⟨b12, 0, none⟩) (1) (1), .slice none 0 0, .slice none 0 0, .slice none 0 0, .slice none 0 0, .slice none 0 0, .slice none 0 0, .slice none 0 0], .agg #[vT ([98]), .slice (some ⟨b13, 0, none⟩) (1) (1), .slice none 0 0, .slice none 0 0, .slice none 0 0, .slice none 0 0, .slice none 0 0, .slice none 0 0, .slice none 0 0, .slice none 0 0], .agg #[vT ([99]), .slice none 0 0, .slice (some ⟨b15, 0, none⟩) (1) (1), .slice none 0 0, .slice none 0 0, .slice none 0 0, .slice none 0 0, .slice none 0 0, .slice none 0 0, .slice none 0 0], .agg #[vT ([100]), .slice none 0 0, .slice (some ⟨b17, 0, none⟩) (1) (1), .slice none 0 0, .slice none 0 0, .slice none 0 0, .slice none 0 0, .slice none 0 0, .slice none 0 0, .slice none 0 0]]) ([(Module.mk [97] [[98], [99]] [(TypeDecl.mk [120] [[121]] [])] [] [] [] [] [] [] []), (Module.mk [98] [[99]] [] [] [] [] [] [] [] []), (Module.mk [99] [] [(TypeDecl.mk [121] [[116, 111, 112]] [])] [] [] [] [] [] [] []), (Module.mk [100] [] [(TypeDecl.mk [122] [[121]] [])] [] [] [] [] [] [] [])])) (RdAll.cons (by exact (RModule.mk' (x := (Module.mk [97] [[98], [99]] [(TypeDecl.mk [120] [[121]] [])] [] [] [] [] [] [] [])) (Nat.le_of_ble_eq_true (by rfl)) (s.ft 120 rfl) (s.ft 122 rfl) (SlR.nil_ _ _ _) (SlR.nil_ _ _ _) (SlR.nil_ _ _ _) (SlR.nil_ _ _ _) (SlR.nil_ _ _ _) (SlR.nil_ _ _ _) (SlR.nil_ _ _ _))) (RdAll.cons (by exact (RModule.mk' (x := (Module.mk [98] [[99]] [] [] [] [] [] [] [] [])) (Nat.le_of_ble_eq_true (by rfl)) (s.ft 124 rfl) (SlR.nil_ _ _ _) (SlR.nil_ _ _ _) (SlR.nil_ _ _ _) (SlR.nil_ _ _ _) (SlR.nil_ _ _ _) (SlR.nil_ _ _ _) (SlR.nil_ _ _ _) (SlR.nil_ _ _ _))) (RdAll.cons (by exact (RModule.mk' (x := (Module.mk [99] [] [(TypeDecl.mk [121] [[116, 111, 112]] [])] [] [] [] [] [] [] [])) (Nat.le_of_ble_eq_true (by rfl)) (SlR.nil_ _ _ _) (s.ft 128 rfl) (SlR.nil_ _ _ _) (SlR.nil_ _ _ _) (SlR.nil_ _ _ _) (SlR.nil_ _ _ _) (SlR.nil_ _ _ _) (SlR.nil_ _ _ _) (SlR.nil_ _ _ _))) (RdAll.cons (by exact (RModule.mk' (x := (Module.mk [100] [] [(TypeDecl.mk [122] [[121]] [])] [] [] [] [] [] [] [])) (Nat.le_of_ble_eq_true (by rfl)) (SlR.nil_ _ _ _) (s.ft 132 rfl) (SlR.nil_ _ _ _) (SlR.nil_ _ _ _) (SlR.nil_ _ _ _) (SlR.nil_ _ _ _) (SlR.nil_ _ _ _) (SlR.nil_ _ _ _) (SlR.nil_ _ _ _))) (RdAll.nil _ _ _)))))
 replace s := s.freeze (R := RModule) (kk := 1115) (L' := []) 137 rfl rfl (s.ft 136 rfl) trivial rfl
 refine lC s rfl func12 (c_module_Order n _ _ s.lt [(Module.mk [97] [[98], [99]] [(TypeDecl.mk [120] [[121]] [])] [] [] [] [] [] [] []), (Module.mk [98] [[99]] [] [] [] [] [] [] [] []), (Module.mk [99] [] [(TypeDecl.mk [121] [[116, 111, 112]] [])] [] [] [] [] [] [] []), (Module.mk [100] [] [(TypeDecl.mk [122] [[121]] [])] [] [] [] [] [] [] [])] (some ⟨b18, 0, none⟩) (4) (s.ft 137 rfl) _ (Nat.le_of_ble_eq_true (by rfl)) _ hr19) fun v22 a w hK hp s => ?_
 obtain ⟨Au23a1, cu23a1, rfl, hu23a1⟩ := hp
 obtain ⟨r24, hr24, hg⟩ := bind_some hg
 refine S s <| nsw 138 hu23a1 <| mw rfl <| yw rfl (y_extract · rfl rfl) <| yw rfl (y_extract · rfl rfl) <| aw rfl <| aw rfl <| nw <| sw <| lw <| mw rfl fun a s => ?_
 refine lC s rfl func17 (c_module_Link n _ _ s.lt [(Module.mk [97] [[98], [99]] [(TypeDecl.mk [120] [[121]] [])] [] [] [] [] [] [] []), (Module.mk [98] [[99]] [] [] [] [] [] [] [] []), (Module.mk [99] [] [(TypeDecl.mk [121] [[116, 111, 112]] [])] [] [] [] [] [] [] []), (Module.mk [100] [] [(TypeDecl.mk [122] [[121]] [])] [] [] [] [] [] [] [])] (some ⟨b18, 0, none⟩) (4) (s.ft 137 rfl) _ (Nat.le_of_ble_eq_true (by rfl)) _ hr24) fun v28 a w hK hp s => ?_
 obtain ⟨Au29a2, cu29a2, Au29a3, cu29a3, Au29a4, cu29a4, Au29a5, cu29a5, Au29a6, cu29a6, Au29a7, cu29a7, Au29a8, cu29a8, Au29a9, cu29a9, Au29a10, cu29a10, rfl, lu29a1, hu29a2, hu29a3, hu29a4, hu29a5, hu29a6, hu29a7, hu29a8, hu29a9, hu29a10⟩ := hp
 refine S s <| nsw 148 hu29a2 <| nsw 149 hu29a3 <| nsw 150 hu29a4 <| nsw 151 hu29a5 <| nsw 152 hu29a6 <| nsw 153 hu29a7 <| nsw 154 hu29a8 <| nsw 155 hu29a9 <| nsw 156 hu29a10 <| mw rfl <| yw rfl (y_extract · rfl rfl) <| yw rfl (y_extract · rfl rfl) fun a s => ?_
 refine l_seq rfl (l_alloc (zs := [vT ([]), .slice none 0 0, .slice none 0 0, .slice none 0 0, .slice none 0 0, .slice none 0 0, .slice none 0 0, .slice none 0 0, .slice none 0 0, .slice none 0 0]) s 1305 rfl rfl rfl rfl fun b30 a w hb hK s => ?_)
 refine l_seq rfl (l_store (n := 10) (cs' := [vT r24.1.Name, sl Au29a2 r24.1.Imports cu29a2, sl Au29a3 r24.1.Types cu29a3, sl Au29a4 r24.1.Templates cu29a4, sl Au29a5 r24.1.Entries cu29a5, sl Au29a6 r24.1.LexRules cu29a6, sl Au29a7 r24.1.Rules cu29a7, sl Au29a8 r24.1.Roots cu29a8, sl Au29a9 r24.1.Checks cu29a9, sl Au29a10 r24.1.Drops cu29a10]) s 1305 rfl rfl rfl rfl rfl rfl rfl rfl ?_); clear s; intro w hK s; clear hK
 obtain ⟨r31, hr31, hg⟩ := bind_some hg
 refine S s <| aw rfl <| nw <| sw <| lw <| mw rfl fun a s => ?_
 refine lC s rfl func17 (c_module_Link n _ _ s.lt [(Module.mk [97] [[98], [99]] [(TypeDecl.mk [120] [[121]] [])] [] [] [] [] [] [] []), (Module.mk [98] [[99]] [] [] [] [] [] [] [] []), (Module.mk [99] [] [(TypeDecl.mk [121] [[116, 111, 112]] [])] [] [] [] [] [] [] []), (Module.mk [100] [] [(TypeDecl.mk [122] [[121]] [])] [] [] [] [] [] [] [])] (some ⟨b18, 0, none⟩) (4) (s.ft 137 rfl) _ (Nat.le_of_ble_eq_true (by rfl)) _ hr31) fun v35 a w hK hp s => ?_
 obtain ⟨Au36a2, cu36a2, Au36a3, cu36a3, Au36a4, cu36a4, Au36a5, cu36a5, Au36a6, cu36a6, Au36a7, cu36a7, Au36a8, cu36a8, Au36a9, cu36a9, Au36a10, cu36a10, rfl, lu36a1, hu36a2, hu36a3, hu36a4, hu36a5, hu36a6, hu36a7, hu36a8, hu36a9, hu36a10⟩ := hp
 refine S s <| nsw 166 hu36a2 <| nsw 167 hu36a3 <| nsw 168 hu36a4 <| nsw 169 hu36a5 <| nsw 170 hu36a6 <| nsw 171 hu36a7 <| nsw 172 hu36a8 <| nsw 173 hu36a9 <| nsw 174 hu36a10 <| mw rfl <| yw rfl (y_extract · rfl rfl) <| yw rfl (y_extract · rfl rfl) fun a s => ?_
 refine l_seq rfl (l_alloc (zs := [vT ([]), .slice none 0 0, .slice none 0 0, .slice none 0 0, .slice none 0 0, .slice none 0 0, .slice none 0 0, .slice none 0 0, .slice none 0 0, .slice none 0 0]) s 1405 rfl rfl rfl rfl fun b37 a w hb hK s => ?_)
 refine l_seq rfl (l_store (n := 10) (cs' := [vT r31.1.Name, sl Au36a2 r31.1.Imports cu36a2, sl Au36a3 r31.1.Types cu36a3, sl Au36a4 r31.1.Templates cu36a4, sl Au36a5 r31.1.Entries cu36a5, sl Au36a6 r31.1.LexRules cu36a6, sl Au36a7 r31.1.Rules cu36a7, sl Au36a8 r31.1.Roots cu36a8, sl Au36a9 r31.1.Checks cu36a9, sl Au36a10 r31.1.Drops cu36a10]) s 1405 rfl rfl rfl rfl rfl rfl rfl rfl ?_); clear s; intro w hK s; clear hK
 obtain ⟨r40, hr40, hg⟩ := bind_some hg
 refine S s <| aw rfl <| nw <| sw <| lw fun a s => ?_
 refine l_seq rfl (l_buildDense (sz := 1) s 1500 rfl rfl rfl underlying25 rfl rfl rfl rfl rfl rfl rfl fun b43 a w hbb43 hK s => ?_)
 clear hbb43
 replace s := s.add 180 (rdF Rep.str (cellsOfL [vT ([97])]) ([[97]])) (RdAll.cons (by exact ⟨rfl, (Nat.le_of_ble_eq_true (by rfl))⟩) (RdAll.nil _ _ _))
 replace s := s.freeze (R := Rep.str) (kk := 1500) (L' := [(1305, Ob.box b30 [vT r24.1.Name, sl Au29a2 r24.1.Imports cu29a2, sl Au29a3 r24.1.Types cu29a3, sl Au29a4 r24.1.Templates cu29a4, sl Au29a5 r24.1.Entries cu29a5, sl Au29a6 r24.1.LexRules cu29a6, sl Au29a7 r24.1.Rules cu29a7, sl Au29a8 r24.1.Roots cu29a8, sl Au29a9 r24.1.Checks cu29a9, sl Au29a10 r24.1.Drops cu29a10] 38), (1405, Ob.box b37 [vT r31.1.Name, sl Au36a2 r31.1.Imports cu36a2, sl Au36a3 r31.1.Types cu36a3, sl Au36a4 r31.1.Templates cu36a4, sl Au36a5 r31.1.Entries cu36a5, sl Au36a6 r31.1.LexRules cu36a6, sl Au36a7 r31.1.Rules cu36a7, sl Au36a8 r31.1.Roots cu36a8, sl Au36a9 r31.1.Checks cu36a9, sl Au36a10 r31.1.Drops cu36a10] 38)]) 181 rfl rfl (s.ft 180 rfl) ⟨rfl, rfl, trivial⟩ rfl
 refine qq s rfl (y_build (parts := [(0, .const (vT ([97]))), (1, .tmp 43)]) (ps := [(0, vT ([97])), (1, .slice (some ⟨b43, 0, none⟩) (1) (1))]) (cells := #[vT ([97]), .slice (some ⟨b43, 0, none⟩) (1) (1), .slice none 0 0, .slice none 0 0, .slice none 0 0, .slice none 0 0, .slice none 0 0, .slice none 0 0, .slice none 0 0, .slice none 0 0]) s rfl (by kernel_rfl)) fun a s => ?_
 refine l_seq rfl (l_buildDense (sz := 10) s 1502 rfl rfl rfl underlying22 rfl rfl rfl rfl rfl rfl rfl fun b44 a w hbb44 hK s => ?_)
 clear hbb44
 replace s := s.add 182 (rdF RModule (cellsOfL [.agg #[vT ([97]), .slice (some ⟨b43, 0, none⟩) (1) (1), .slice none 0 0, .slice none 0 0, .slice none 0 0, .slice none 0 0, .slice none 0 0, .slice none 0 0, .slice none 0 0, .slice none 0 0]]) ([(Module.mk [97] [[97]] [] [] [] [] [] [] [] [])])) (RdAll.cons (by exact (RModule.mk' (x := (Module.mk [97] [[97]] [] [] [] [] [] [] [] [])) (Nat.le_of_ble_eq_true (by rfl)) (s.ft 181 rfl) (SlR.nil_ _ _ _) (SlR.nil_ _ _ _) (SlR.nil_ _ _ _) (SlR.nil_ _ _ _) (SlR.nil_ _ _ _) (SlR.nil_ _ _ _) (SlR.nil_ _ _ _) (SlR.nil_ _ _ _))) (RdAll.nil _ _ _))
 replace s := s.freeze (R := RModule) (kk := 1502) (L' := [(1305, Ob.box b30 [vT r24.1.Name, sl Au29a2 r24.1.Imports cu29a2, sl Au29a3 r24.1.Types cu29a3, sl Au29a4 r24.1.Templates cu29a4, sl Au29a5 r24.1.Entries cu29a5, sl Au29a6 r24.1.LexRules cu29a6, sl Au29a7 r24.1.Rules cu29a7, sl Au29a8 r24.1.Roots cu29a8, sl Au29a9 r24.1.Checks cu29a9, sl Au29a10 r24.1.Drops cu29a10] 38), (1405, Ob.box b37 [vT r31.1.Name, sl Au36a2 r31.1.Imports cu36a2, sl Au36a3 r31.1.Types cu36a3, sl Au36a4 r31.1.Templates cu36a4, sl Au36a5 r31.1.Entries cu36a5, sl Au36a6 r31.1.LexRules cu36a6, sl Au36a7 r31.1.Rules cu36a7, sl Au36a8 r31.1.Roots cu36a8, sl Au36a9 r31.1.Checks cu36a9, sl Au36a10 r31.1.Drops cu36a10] 38)]) 183 rfl rfl (s.ft 182 rfl) ⟨rfl, rfl, trivial⟩ rfl
 refine lC s rfl func12 (c_module_Order n _ _ s.lt [(Module.mk [97] [[97]] [] [] [] [] [] [] [] [])] (some ⟨b44, 0, none⟩) (1) (s.ft 183 rfl) _ (Nat.le_of_ble_eq_true (by rfl)) _ hr40) fun v45 a w hK hp s => ?_
 obtain ⟨Au46a1, cu46a1, rfl, hu46a1⟩ := hp
 obtain ⟨r47, hr47, hg⟩ := bind_some hg
 refine S s <| nsw 184 hu46a1 <| mw rfl <| yw rfl (y_extract · rfl rfl) <| yw rfl (y_extract · rfl rfl) <| aw rfl <| aw rfl <| nw <| sw <| lw <| mw rfl fun a s => ?_
 refine lC s rfl func15 (c_module_Visible n _ _ s.lt [(Module.mk [97] [[98], [99]] [(TypeDecl.mk [120] [[121]] [])] [] [] [] [] [] [] []), (Module.mk [98] [[99]] [] [] [] [] [] [] [] []), (Module.mk [99] [] [(TypeDecl.mk [121] [[116, 111, 112]] [])] [] [] [] [] [] [] []), (Module.mk [100] [] [(TypeDecl.mk [122] [[121]] [])] [] [] [] [] [] [] [])] (some ⟨b18, 0, none⟩) (4) (s.ft 137 rfl) _ (Nat.le_of_ble_eq_true (by rfl)) _ hr47) fun v50 a w hK hp s => ?_
 obtain ⟨Au51a1, cu51a1, rfl, hu51a1⟩ := hp
 refine S s <| nsw 186 hu51a1 <| aw rfl <| nw <| sw fun a s => ?_
 rcases Decidable.em (r19.2 = 0) with hs52 | hs52
 ·have hs52e := decide_eq_true hs52
  replace hg := br_t hg hs52
  obtain ⟨r54, hr54, hg⟩ := bind_some hg
  rcases Bool.eq_false_or_eq_true (r54) with hs57 | hs57
  ·replace hg := br_t hg hs57
   rcases Decidable.em (r24.2 = 0) with hs58 | hs58
   ·have hs58e := decide_eq_true hs58
    replace hg := br_t hg hs58
    rcases Decidable.em ((r24.1.Name : List UInt8) = [97]) with hs59 | hs59
    ·have hs59e := decide_eq_true hs59
     replace hg := br_t hg hs59
     rcases Decidable.em (((r24.1.Types).length) = 2) with hs60 | hs60
     ·have hs60e := decide_eq_true hs60
      replace hg := br_t hg hs60
      obtain ⟨x62, hx62, hg⟩ := bind_some hg
      rcases Decidable.em ((x62.Name : List UInt8) = [121]) with hs64 | hs64
      ·have hs64e := decide_eq_true hs64
       replace hg := br_t hg hs64
       rcases Decidable.em (r31.2 = 5) with hs65 | hs65
       ·have hs65e := decide_eq_true hs65
        replace hg := br_t hg hs65
        rcases Decidable.em (r40.2 = 6) with hs66 | hs66
        ·have hs66e := decide_eq_true hs66
         replace hg := br_t hg hs66
         rcases Decidable.em (((r47).length) = 14) with hs67 | hs67
         ·have hs67e := decide_eq_true hs67
          replace hg := br_t hg hs67
          obtain ⟨x69, hx69, hg⟩ := bind_some hg
          rcases Decidable.em ((x69 : List UInt8) = [121]) with hs71 | hs71
          ·have hs71e := decide_eq_true hs71
           replace hg := br_t hg hs71
           obtain ⟨x73, hx73, hg⟩ := bind_some hg
           refine S s <| lw <| mw rfl <| yw rfl (fun s => yl_b (y_eql s rfl rfl) hs52e) <| mw rfl <| hw rfl fun a s => ?_
           refine gl s rfl (l_buildDense (sz := 1) s 1704 rfl rfl rfl underlying25 rfl rfl rfl rfl rfl rfl rfl fun b75 a w hbb75 hK s => ?_)
           clear hbb75
           replace s := s.add 191 (rdF Rep.str (cellsOfL [vT ([99]), vT ([98]), vT ([97])]) ([[99], [98], [97]])) (RdAll.cons (by exact ⟨rfl, (Nat.le_of_ble_eq_true (by rfl))⟩) (RdAll.cons (by exact ⟨rfl, (Nat.le_of_ble_eq_true (by rfl))⟩) (RdAll.cons (by exact ⟨rfl, (Nat.le_of_ble_eq_true (by rfl))⟩) (RdAll.nil _ _ _))))
           have hT := s
           replace hT := hT.fz (R := Rep.str) (kk := 1704) [1305, 1405] 192 rfl rfl (hT.ft 191 rfl) rfl
           refine gC s rfl func14 (c_r01_Same n _ _ hT.lt _ _ _ (hT.ft 138 rfl) [[99], [98], [97]] (some ⟨b75, 0, none⟩) (3) (hT.ft 192 rfl) _ hr54) fun v76 a w hK hp s => ?_
           obtain rfl := hp.trans (congrArg Value.bool hs57)
           refine S s <| yw rfl (y_pick_t · rfl rfl) <| mw rfl <| hw rfl <| zw rfl (fun s => yl_b (y_eql s rfl rfl) hs58e) <| yw rfl (y_pick_t · rfl rfl) <| mw rfl <| zw rfl (y_boxField (o' := 0) · rfl underlying38 rfl rfl rfl) <| zw rfl (y_loadBox1 (kk := 1305) · rfl rfl rfl underlying9 rfl) <| zw rfl (fun s => yl_b (y_seq s rfl rfl) hs59e) <| yw rfl (y_pick_t · rfl rfl) <| mw rfl <| zw rfl (y_boxField (o' := 2) · rfl underlying38 rfl rfl rfl) <| zw rfl (y_loadBox1 (kk := 1305) · rfl rfl rfl underlying32 rfl) <| zw rfl (y_lenSlice · rfl underlying32) <| zw rfl (fun s => yl_b (y_eqlN (i := ((r24.1.Types).length)) (j := 2) s rfl rfl) hs60e) <| yw rfl (y_pick_t · rfl rfl) <| mw rfl <| zw rfl (y_boxField (o' := 2) · rfl underlying38 rfl rfl rfl) <| zw rfl (y_loadBox1 (kk := 1305) · rfl rfl rfl underlying32 rfl) fun a s => ?_
           obtain ⟨p78, hep78, hlq79, hmq79, csq79, hdq79, hcq79⟩ := SlR.elemX (s.ft 149 rfl) hx62
           refine S s <| zw rfl (y_elem (sz := 3) (i := 0) · rfl rfl underlying32 rfl hep78 rfl (lt_of_get hx62)) <| zw rfl (y_ptrField (o' := 0) · rfl underlying49 rfl rfl rfl) fun a s => ?_
           obtain ⟨Aq792, cq792, Aq793, cq793, rfl, lq791, hq792, hq793⟩ := RTypeDecl.open hdq79
           refine S s <| nsw 193 hq792 <| nsw 194 hq793 <| zw rfl (y_ldp1 · rfl hlq79 hmq79 (hcq79 0 _ rfl) underlying9 rfl) <| zw rfl (fun s => yl_b (y_seq s rfl rfl) hs64e) <| yw rfl (y_pick_t · rfl rfl) <| mw rfl <| hw rfl <| zw rfl (fun s => yl_b (y_eql s rfl rfl) hs65e) <| yw rfl (y_pick_t · rfl rfl) <| mw rfl <| hw rfl <| zw rfl (fun s => yl_b (y_eql s rfl rfl) hs66e) <| yw rfl (y_pick_t · rfl rfl) <| mw rfl <| hw rfl <| zw rfl (y_lenSlice · rfl underlying25) <| zw rfl (fun s => yl_b (y_eqlN (i := ((r47).length)) (j := 14) s rfl rfl) hs67e) <| yw rfl (y_pick_t · rfl rfl) <| mw rfl <| hw rfl fun a s => ?_
           obtain ⟨p80, hep80, hlq81, hmq81, csq81, hdq81, hcq81⟩ := SlR.elemX (s.ft 186 rfl) hx69
           refine gy s rfl (y_elem (sz := 1) (i := 13) s rfl rfl underlying25 rfl hep80 rfl (lt_of_get hx69)) fun a s => ?_
           obtain ⟨rfl, lq811⟩ := hdq81
           refine S s <| zw rfl (y_ldp1 · rfl hlq81 hmq81 (hcq81 0 _ rfl) underlying9 rfl) <| zw rfl (fun s => yl_b (y_seq s rfl rfl) hs71e) <| yw rfl (y_pick_t · rfl rfl) <| mw rfl <| hw rfl fun a s => ?_
           obtain ⟨p82, hep82, hlq83, hmq83, csq83, hdq83, hcq83⟩ := SlR.elemX (s.ft 186 rfl) hx73
           refine gy s rfl (y_elem (sz := 1) (i := 0) s rfl rfl underlying25 rfl hep82 rfl (lt_of_get hx73)) fun a s => ?_
           obtain ⟨rfl, lq831⟩ := hdq83
           refine S s <| zw rfl (y_ldp1 · rfl hlq83 hmq83 (hcq83 0 _ rfl) underlying9 rfl) <| zw rfl (y_seq · rfl rfl) <| yw rfl (y_pick_t · rfl rfl) <| aw rfl <| nw fun a s => ?_
           apply wp_ret
           obtain rfl := Option.some.inj hg
           exact fin1 (fn := Tryz.f11) s rfl (r_tmp s rfl) rfl
          have hs71e := decide_eq_false hs71
          replace hg := br_f hg hs71
          refine S s <| lw <| mw rfl <| yw rfl (fun s => yl_b (y_eql s rfl rfl) hs52e) <| mw rfl <| hw rfl fun a s => ?_
          refine gl s rfl (l_buildDense (sz := 1) s 1704 rfl rfl rfl underlying25 rfl rfl rfl rfl rfl rfl rfl fun b84 a w hbb84 hK s => ?_)
          clear hbb84
          replace s := s.add 195 (rdF Rep.str (cellsOfL [vT ([99]), vT ([98]), vT ([97])]) ([[99], [98], [97]])) (RdAll.cons (by exact ⟨rfl, (Nat.le_of_ble_eq_true (by rfl))⟩) (RdAll.cons (by exact ⟨rfl, (Nat.le_of_ble_eq_true (by rfl))⟩) (RdAll.cons (by exact ⟨rfl, (Nat.le_of_ble_eq_true (by rfl))⟩) (RdAll.nil _ _ _))))
          have hT := s
          replace hT := hT.fz (R := Rep.str) (kk := 1704) [1305, 1405] 196 rfl rfl (hT.ft 195 rfl) rfl
          refine gC s rfl func14 (c_r01_Same n _ _ hT.lt _ _ _ (hT.ft 138 rfl) [[99], [98], [97]] (some ⟨b84, 0, none⟩) (3) (hT.ft 196 rfl) _ hr54) fun v85 a w hK hp s => ?_
          obtain rfl := hp.trans (congrArg Value.bool hs57)
          refine S s <| yw rfl (y_pick_t · rfl rfl) <| mw rfl <| hw rfl <| zw rfl (fun s => yl_b (y_eql s rfl rfl) hs58e) <| yw rfl (y_pick_t · rfl rfl) <| mw rfl <| zw rfl (y_boxField (o' := 0) · rfl underlying38 rfl rfl rfl) <| zw rfl (y_loadBox1 (kk := 1305) · rfl rfl rfl underlying9 rfl) <| zw rfl (fun s => yl_b (y_seq s rfl rfl) hs59e) <| yw rfl (y_pick_t · rfl rfl) <| mw rfl <| zw rfl (y_boxField (o' := 2) · rfl underlying38 rfl rfl rfl) <| zw rfl (y_loadBox1 (kk := 1305) · rfl rfl rfl underlying32 rfl) <| zw rfl (y_lenSlice · rfl underlying32) <| zw rfl (fun s => yl_b (y_eqlN (i := ((r24.1.Types).length)) (j := 2) s rfl rfl) hs60e) <| yw rfl (y_pick_t · rfl rfl) <| mw rfl <| zw rfl (y_boxField (o' := 2) · rfl underlying38 rfl rfl rfl) <| zw rfl (y_loadBox1 (kk := 1305) · rfl rfl rfl underlying32 rfl) fun a s => ?_
          obtain ⟨p87, hep87, hlq88, hmq88, csq88, hdq88, hcq88⟩ := SlR.elemX (s.ft 149 rfl) hx62
          refine S s <| zw rfl (y_elem (sz := 3) (i := 0) · rfl rfl underlying32 rfl hep87 rfl (lt_of_get hx62)) <| zw rfl (y_ptrField (o' := 0) · rfl underlying49 rfl rfl rfl) fun a s => ?_
          obtain ⟨Aq882, cq882, Aq883, cq883, rfl, lq881, hq882, hq883⟩ := RTypeDecl.open hdq88
          refine S s <| nsw 197 hq882 <| nsw 198 hq883 <| zw rfl (y_ldp1 · rfl hlq88 hmq88 (hcq88 0 _ rfl) underlying9 rfl) <| zw rfl (fun s => yl_b (y_seq s rfl rfl) hs64e) <| yw rfl (y_pick_t · rfl rfl) <| mw rfl <| hw rfl <| zw rfl (fun s => yl_b (y_eql s rfl rfl) hs65e) <| yw rfl (y_pick_t · rfl rfl) <| mw rfl <| hw rfl <| zw rfl (fun s => yl_b (y_eql s rfl rfl) hs66e) <| yw rfl (y_pick_t · rfl rfl) <| mw rfl <| hw rfl <| zw rfl (y_lenSlice · rfl underlying25) <| zw rfl (fun s => yl_b (y_eqlN (i := ((r47).length)) (j := 14) s rfl rfl) hs67e) <| yw rfl (y_pick_t · rfl rfl) <| mw rfl <| hw rfl fun a s => ?_
          obtain ⟨p89, hep89, hlq90, hmq90, csq90, hdq90, hcq90⟩ := SlR.elemX (s.ft 186 rfl) hx69
          refine gy s rfl (y_elem (sz := 1) (i := 13) s rfl rfl underlying25 rfl hep89 rfl (lt_of_get hx69)) fun a s => ?_
          obtain ⟨rfl, lq901⟩ := hdq90
          refine S s <| zw rfl (y_ldp1 · rfl hlq90 hmq90 (hcq90 0 _ rfl) underlying9 rfl) <| zw rfl (fun s => yl_b (y_seq s rfl rfl) hs71e) <| yw rfl (y_pick_t · rfl rfl) <| mw rfl <| gw rfl <| gw rfl <| gw rfl <| gw rfl <| yw rfl (y_pick_f · rfl rfl) <| aw rfl <| nw fun a s => ?_
          apply wp_ret
          obtain rfl := Option.some.inj hg
          exact fin1 (fn := Tryz.f11) s rfl (r_tmp s rfl) rfl
         have hs67e := decide_eq_false hs67
         replace hg := br_f hg hs67
         refine S s <| lw <| mw rfl <| yw rfl (fun s => yl_b (y_eql s rfl rfl) hs52e) <| mw rfl <| hw rfl fun a s => ?_
         refine gl s rfl (l_buildDense (sz := 1) s 1704 rfl rfl rfl underlying25 rfl rfl rfl rfl rfl rfl rfl fun b91 a w hbb91 hK s => ?_)
         clear hbb91
         replace s := s.add 199 (rdF Rep.str (cellsOfL [vT ([99]), vT ([98]), vT ([97])]) ([[99], [98], [97]])) (RdAll.cons (by exact ⟨rfl, (Nat.le_of_ble_eq_true (by rfl))⟩) (RdAll.cons (by exact ⟨rfl, (Nat.le_of_ble_eq_true (by rfl))⟩) (RdAll.cons (by exact ⟨rfl, (Nat.le_of_ble_eq_true (by rfl))⟩) (RdAll.nil _ _ _))))
         have hT := s
         replace hT := hT.fz (R := Rep.str) (kk := 1704) [1305, 1405] 200 rfl rfl (hT.ft 199 rfl) rfl
         refine gC s rfl func14 (c_r01_Same n _ _ hT.lt _ _ _ (hT.ft 138 rfl) [[99], [98], [97]] (some ⟨b91, 0, none⟩) (3) (hT.ft 200 rfl) _ hr54) fun v92 a w hK hp s => ?_
         obtain rfl := hp.trans (congrArg Value.bool hs57)
         refine S s <| yw rfl (y_pick_t · rfl rfl) <| mw rfl <| hw rfl <| zw rfl (fun s => yl_b (y_eql s rfl rfl) hs58e) <| yw rfl (y_pick_t · rfl rfl) <| mw rfl <| zw rfl (y_boxField (o' := 0) · rfl underlying38 rfl rfl rfl) <| zw rfl (y_loadBox1 (kk := 1305) · rfl rfl rfl underlying9 rfl) <| zw rfl (fun s => yl_b (y_seq s rfl rfl) hs59e) <| yw rfl (y_pick_t · rfl rfl) <| mw rfl <| zw rfl (y_boxField (o' := 2) · rfl underlying38 rfl rfl rfl) <| zw rfl (y_loadBox1 (kk := 1305) · rfl rfl rfl underlying32 rfl) <| zw rfl (y_lenSlice · rfl underlying32) <| zw rfl (fun s => yl_b (y_eqlN (i := ((r24.1.Types).length)) (j := 2) s rfl rfl) hs60e) <| yw rfl (y_pick_t · rfl rfl) <| mw rfl <| zw rfl (y_boxField (o' := 2) · rfl underlying38 rfl rfl rfl) <| zw rfl (y_loadBox1 (kk := 1305) · rfl rfl rfl underlying32 rfl) fun a s => ?_
         obtain ⟨p94, hep94, hlq95, hmq95, csq95, hdq95, hcq95⟩ := SlR.elemX (s.ft 149 rfl) hx62
         refine S s <| zw rfl (y_elem (sz := 3) (i := 0) · rfl rfl underlying32 rfl hep94 rfl (lt_of_get hx62)) <| zw rfl (y_ptrField (o' := 0) · rfl underlying49 rfl rfl rfl) fun a s => ?_
         obtain ⟨Aq952, cq952, Aq953, cq953, rfl, lq951, hq952, hq953⟩ := RTypeDecl.open hdq95
         refine S s <| nsw 201 hq952 <| nsw 202 hq953 <| zw rfl (y_ldp1 · rfl hlq95 hmq95 (hcq95 0 _ rfl) underlying9 rfl) <| zw rfl (fun s => yl_b (y_seq s rfl rfl) hs64e) <| yw rfl (y_pick_t · rfl rfl) <| mw rfl <| hw rfl <| zw rfl (fun s => yl_b (y_eql s rfl rfl) hs65e) <| yw rfl (y_pick_t · rfl rfl) <| mw rfl <| hw rfl <| zw rfl (fun s => yl_b (y_eql s rfl rfl) hs66e) <| yw rfl (y_pick_t · rfl rfl) <| mw rfl <| hw rfl <| zw rfl (y_lenSlice · rfl underlying25) <| zw rfl (fun s => yl_b (y_eqlN (i := ((r47).length)) (j := 14) s rfl rfl) hs67e) <| yw rfl (y_pick_t · rfl rfl) <| mw rfl <| gw rfl <| gw rfl <| gw rfl <| gw rfl <| yw rfl (y_pick_f · rfl rfl) <| mw rfl <| gw rfl <| gw rfl <| gw rfl <| gw rfl <| yw rfl (y_pick_f · rfl rfl) <| aw rfl <| nw fun a s => ?_
         apply wp_ret
         obtain rfl := Option.some.inj hg
         exact fin1 (fn := Tryz.f11) s rfl (r_tmp s rfl) rfl
        have hs66e := decide_eq_false hs66
        replace hg := br_f hg hs66
        refine S s <| lw <| mw rfl <| yw rfl (fun s => yl_b (y_eql s rfl rfl) hs52e) <| mw rfl <| hw rfl fun a s => ?_
        refine gl s rfl (l_buildDense (sz := 1) s 1704 rfl rfl rfl underlying25 rfl rfl rfl rfl rfl rfl rfl fun b96 a w hbb96 hK s => ?_)
        clear hbb96
        replace s := s.add 203 (rdF Rep.str (cellsOfL [vT ([99]), vT ([98]), vT ([97])]) ([[99], [98], [97]])) (RdAll.cons (by exact ⟨rfl, (Nat.le_of_ble_eq_true (by rfl))⟩) (RdAll.cons (by exact ⟨rfl, (Nat.le_of_ble_eq_true (by rfl))⟩) (RdAll.cons (by exact ⟨rfl, (Nat.le_of_ble_eq_true (by rfl))⟩) (RdAll.nil _ _ _))))
        have hT := s
        replace hT := hT.fz (R := Rep.str) (kk := 1704) [1305, 1405] 204 rfl rfl (hT.ft 203 rfl) rfl
        refine gC s rfl func14 (c_r01_Same n _ _ hT.lt _ _ _ (hT.ft 138 rfl) [[99], [98], [97]] (some ⟨b96, 0, none⟩) (3) (hT.ft 204 rfl) _ hr54) fun v97 a w hK hp s => ?_
        obtain rfl := hp.trans (congrArg Value.bool hs57)
        refine S s <| yw rfl (y_pick_t · rfl rfl) <| mw rfl <| hw rfl <| zw rfl (fun s => yl_b (y_eql s rfl rfl) hs58e) <| yw rfl (y_pick_t · rfl rfl) <| mw rfl <| zw rfl (y_boxField (o' := 0) · rfl underlying38 rfl rfl rfl) <| zw rfl (y_loadBox1 (kk := 1305) · rfl rfl rfl underlying9 rfl) <| zw rfl (fun s => yl_b (y_seq s rfl rfl) hs59e) <| yw rfl (y_pick_t · rfl rfl) <| mw rfl <| zw rfl (y_boxField (o' := 2) · rfl underlying38 rfl rfl rfl) <| zw rfl (y_loadBox1 (kk := 1305) · rfl rfl rfl underlying32 rfl) <| zw rfl (y_lenSlice · rfl underlying32) <| zw rfl (fun s => yl_b (y_eqlN (i := ((r24.1.Types).length)) (j := 2) s rfl rfl) hs60e) <| yw rfl (y_pick_t · rfl rfl) <| mw rfl <| zw rfl (y_boxField (o' := 2) · rfl underlying38 rfl rfl rfl) <| zw rfl (y_loadBox1 (kk := 1305) · rfl rfl rfl underlying32 rfl) fun a s => ?_
        obtain ⟨p99, hep99, hlq100, hmq100, csq100, hdq100, hcq100⟩ := SlR.elemX (s.ft 149 rfl) hx62
        refine S s <| zw rfl (y_elem (sz := 3) (i := 0) · rfl rfl underlying32 rfl hep99 rfl (lt_of_get hx62)) <| zw rfl (y_ptrField (o' := 0) · rfl underlying49 rfl rfl rfl) fun a s => ?_
        obtain ⟨Aq1002, cq1002, Aq1003, cq1003, rfl, lq1001, hq1002, hq1003⟩ := RTypeDecl.open hdq100
        refine S s <| nsw 205 hq1002 <| nsw 206 hq1003 <| zw rfl (y_ldp1 · rfl hlq100 hmq100 (hcq100 0 _ rfl) underlying9 rfl) <| zw rfl (fun s => yl_b (y_seq s rfl rfl) hs64e) <| yw rfl (y_pick_t · rfl rfl) <| mw rfl <| hw rfl <| zw rfl (fun s => yl_b (y_eql s rfl rfl) hs65e) <| yw rfl (y_pick_t · rfl rfl) <| mw rfl <| hw rfl <| zw rfl (fun s => yl_b (y_eql s rfl rfl) hs66e) <| yw rfl (y_pick_t · rfl rfl) <| mw rfl <| gw rfl <| gw rfl <| gw rfl <| yw rfl (y_pick_f · rfl rfl) <| mw rfl <| gw rfl <| gw rfl <| gw rfl <| gw rfl <| yw rfl (y_pick_f · rfl rfl) <| mw rfl <| gw rfl <| gw rfl <| gw rfl <| gw rfl <| yw rfl (y_pick_f · rfl rfl) <| aw rfl <| nw fun a s => ?_
        apply wp_ret
        obtain rfl := Option.some.inj hg
        exact fin1 (fn := Tryz.f11) s rfl (r_tmp s rfl) rfl
       have hs65e := decide_eq_false hs65
       replace hg := br_f hg hs65
       refine S s <| lw <| mw rfl <| yw rfl (fun s => yl_b (y_eql s rfl rfl) hs52e) <| mw rfl <| hw rfl fun a s => ?_
       refine gl s rfl (l_buildDense (sz := 1) s 1704 rfl rfl rfl underlying25 rfl rfl rfl rfl rfl rfl rfl fun b101 a w hbb101 hK s => ?_)
       clear hbb101
       replace s := s.add 207 (rdF Rep.str (cellsOfL [vT ([99]), vT ([98]), vT ([97])]) ([[99], [98], [97]])) (RdAll.cons (by exact ⟨rfl, (Nat.le_of_ble_eq_true (by rfl))⟩) (RdAll.cons (by exact ⟨rfl, (Nat.le_of_ble_eq_true (by rfl))⟩) (RdAll.cons (by exact ⟨rfl, (Nat.le_of_ble_eq_true (by rfl))⟩) (RdAll.nil _ _ _))))
       have hT := s
       replace hT := hT.fz (R := Rep.str) (kk := 1704) [1305, 1405] 208 rfl rfl (hT.ft 207 rfl) rfl
       refine gC s rfl func14 (c_r01_Same n _ _ hT.lt _ _ _ (hT.ft 138 rfl) [[99], [98], [97]] (some ⟨b101, 0, none⟩) (3) (hT.ft 208 rfl) _ hr54) fun v102 a w hK hp s => ?_
       obtain rfl := hp.trans (congrArg Value.bool hs57)
       refine S s <| yw rfl (y_pick_t · rfl rfl) <| mw rfl <| hw rfl <| zw rfl (fun s => yl_b (y_eql s rfl rfl) hs58e) <| yw rfl (y_pick_t · rfl rfl) <| mw rfl <| zw rfl (y_boxField (o' := 0) · rfl underlying38 rfl rfl rfl) <| zw rfl (y_loadBox1 (kk := 1305) · rfl rfl rfl underlying9 rfl) <| zw rfl (fun s => yl_b (y_seq s rfl rfl) hs59e) <| yw rfl (y_pick_t · rfl rfl) <| mw rfl <| zw rfl (y_boxField (o' := 2) · rfl underlying38 rfl rfl rfl) <| zw rfl (y_loadBox1 (kk := 1305) · rfl rfl rfl underlying32 rfl) <| zw rfl (y_lenSlice · rfl underlying32) <| zw rfl (fun s => yl_b (y_eqlN (i := ((r24.1.Types).length)) (j := 2) s rfl rfl) hs60e) <| yw rfl (y_pick_t · rfl rfl) <| mw rfl <| zw rfl (y_boxField (o' := 2) · rfl underlying38 rfl rfl rfl) <| zw rfl (y_loadBox1 (kk := 1305) · rfl rfl rfl underlying32 rfl) fun a s => ?_
       obtain ⟨p104, hep104, hlq105, hmq105, csq105, hdq105, hcq105⟩ := SlR.elemX (s.ft 149 rfl) hx62
       refine S s <| zw rfl (y_elem (sz := 3) (i := 0) · rfl rfl underlying32 rfl hep104 rfl (lt_of_get hx62)) <| zw rfl (y_ptrField (o' := 0) · rfl underlying49 rfl rfl rfl) fun a s => ?_
       obtain ⟨Aq1052, cq1052, Aq1053, cq1053, rfl, lq1051, hq1052, hq1053⟩ := RTypeDecl.open hdq105
       refine S s <| nsw 209 hq1052 <| nsw 210 hq1053 <| zw rfl (y_ldp1 · rfl hlq105 hmq105 (hcq105 0 _ rfl) underlying9 rfl) <| zw rfl (fun s => yl_b (y_seq s rfl rfl) hs64e) <| yw rfl (y_pick_t · rfl rfl) <| mw rfl <| hw rfl <| zw rfl (fun s => yl_b (y_eql s rfl rfl) hs65e) <| yw rfl (y_pick_t · rfl rfl) <| mw rfl <| gw rfl <| gw rfl <| yw rfl (y_pick_f · rfl rfl) <| mw rfl <| gw rfl <| gw rfl <| gw rfl <| yw rfl (y_pick_f · rfl rfl) <| mw rfl <| gw rfl <| gw rfl <| gw rfl <| gw rfl <| yw rfl (y_pick_f · rfl rfl) <| mw rfl <| gw rfl <| gw rfl <| gw rfl <| gw rfl <| yw rfl (y_pick_f · rfl rfl) <| aw rfl <| nw fun a s => ?_
       apply wp_ret
       obtain rfl := Option.some.inj hg
       exact fin1 (fn := Tryz.f11) s rfl (r_tmp s rfl) rfl
      have hs64e := decide_eq_false hs64
      replace hg := br_f hg hs64
      refine S s <| lw <| mw rfl <| yw rfl (fun s => yl_b (y_eql s rfl rfl) hs52e) <| mw rfl <| hw rfl fun a s => ?_
      refine gl s rfl (l_buildDense (sz := 1) s 1704 rfl rfl rfl underlying25 rfl rfl rfl rfl rfl rfl rfl fun b106 a w hbb106 hK s => ?_)
      clear hbb106
      replace s := s.add 211 (rdF Rep.str (cellsOfL [vT ([99]), vT ([98]), vT ([97])]) ([[99], [98], [97]])) (RdAll.cons (by exact ⟨rfl, (Nat.le_of_ble_eq_true (by rfl))⟩) (RdAll.cons (by exact ⟨rfl, (Nat.le_of_ble_eq_true (by rfl))⟩) (RdAll.cons (by exact ⟨rfl, (Nat.le_of_ble_eq_true (by rfl))⟩) (RdAll.nil _ _ _))))
      have hT := s
      replace hT := hT.fz (R := Rep.str) (kk := 1704) [1305, 1405] 212 rfl rfl (hT.ft 211 rfl) rfl
      refine gC s rfl func14 (c_r01_Same n _ _ hT.lt _ _ _ (hT.ft 138 rfl) [[99], [98], [97]] (some ⟨b106, 0, none⟩) (3) (hT.ft 212 rfl) _ hr54) fun v107 a w hK hp s => ?_
      obtain rfl := hp.trans (congrArg Value.bool hs57)
      refine S s <| yw rfl (y_pick_t · rfl rfl) <| mw rfl <| hw rfl <| zw rfl (fun s => yl_b (y_eql s rfl rfl) hs58e) <| yw rfl (y_pick_t · rfl rfl) <| mw rfl <| zw rfl (y_boxField (o' := 0) · rfl underlying38 rfl rfl rfl) <| zw rfl (y_loadBox1 (kk := 1305) · rfl rfl rfl underlying9 rfl) <| zw rfl (fun s => yl_b (y_seq s rfl rfl) hs59e) <| yw rfl (y_pick_t · rfl rfl) <| mw rfl <| zw rfl (y_boxField (o' := 2) · rfl underlying38 rfl rfl rfl) <| zw rfl (y_loadBox1 (kk := 1305) · rfl rfl rfl underlying32 rfl) <| zw rfl (y_lenSlice · rfl underlying32) <| zw rfl (fun s => yl_b (y_eqlN (i := ((r24.1.Types).length)) (j := 2) s rfl rfl) hs60e) <| yw rfl (y_pick_t · rfl rfl) <| mw rfl <| zw rfl (y_boxField (o' := 2) · rfl underlying38 rfl rfl rfl) <| zw rfl (y_loadBox1 (kk := 1305) · rfl rfl rfl underlying32 rfl) fun a s => ?_
      obtain ⟨p109, hep109, hlq110, hmq110, csq110, hdq110, hcq110⟩ := SlR.elemX (s.ft 149 rfl) hx62
      refine S s <| zw rfl (y_elem (sz := 3) (i := 0) · rfl rfl underlying32 rfl hep109 rfl (lt_of_get hx62)) <| zw rfl (y_ptrField (o' := 0) · rfl underlying49 rfl rfl rfl) fun a s => ?_
      obtain ⟨Aq1102, cq1102, Aq1103, cq1103, rfl, lq1101, hq1102, hq1103⟩ := RTypeDecl.open hdq110
      refine S s <| nsw 213 hq1102 <| nsw 214 hq1103 <| zw rfl (y_ldp1 · rfl hlq110 hmq110 (hcq110 0 _ rfl) underlying9 rfl) <| zw rfl (fun s => yl_b (y_seq s rfl rfl) hs64e) <| yw rfl (y_pick_t · rfl rfl) <| mw rfl <| gw rfl <| gw rfl <| yw rfl (y_pick_f · rfl rfl) <| mw rfl <| gw rfl <| gw rfl <| yw rfl (y_pick_f · rfl rfl) <| mw rfl <| gw rfl <| gw rfl <| gw rfl <| yw rfl (y_pick_f · rfl rfl) <| mw rfl <| gw rfl <| gw rfl <| gw rfl <| gw rfl <| yw rfl (y_pick_f · rfl rfl) <| mw rfl <| gw rfl <| gw rfl <| gw rfl <| gw rfl <| yw rfl (y_pick_f · rfl rfl) <| aw rfl <| nw fun a s => ?_
      apply wp_ret
      obtain rfl := Option.some.inj hg
      exact fin1 (fn := Tryz.f11) s rfl (r_tmp s rfl) rfl
     have hs60e := decide_eq_false hs60
     replace hg := br_f hg hs60
     refine S s <| lw <| mw rfl <| yw rfl (fun s => yl_b (y_eql s rfl rfl) hs52e) <| mw rfl <| hw rfl fun a s => ?_
     refine gl s rfl (l_buildDense (sz := 1) s 1704 rfl rfl rfl underlying25 rfl rfl rfl rfl rfl rfl rfl fun b111 a w hbb111 hK s => ?_)
     clear hbb111
     replace s := s.add 215 (rdF Rep.str (cellsOfL [vT ([99]), vT ([98]), vT ([97])]) ([[99], [98], [97]])) (RdAll.cons (by exact ⟨rfl, (Nat.le_of_ble_eq_true (by rfl))⟩) (RdAll.cons (by exact ⟨rfl, (Nat.le_of_ble_eq_true (by rfl))⟩) (RdAll.cons (by exact ⟨rfl, (Nat.le_of_ble_eq_true (by rfl))⟩) (RdAll.nil _ _ _))))
     have hT := s
     replace hT := hT.fz (R := Rep.str) (kk := 1704) [1305, 1405] 216 rfl rfl (hT.ft 215 rfl) rfl
     refine gC s rfl func14 (c_r01_Same n _ _ hT.lt _ _ _ (hT.ft 138 rfl) [[99], [98], [97]] (some ⟨b111, 0, none⟩) (3) (hT.ft 216 rfl) _ hr54) fun v112 a w hK hp s => ?_
     obtain rfl := hp.trans (congrArg Value.bool hs57)
     refine S s <| yw rfl (y_pick_t · rfl rfl) <| mw rfl <| hw rfl <| zw rfl (fun s => yl_b (y_eql s rfl rfl) hs58e) <| yw rfl (y_pick_t · rfl rfl) <| mw rfl <| zw rfl (y_boxField (o' := 0) · rfl underlying38 rfl rfl rfl) <| zw rfl (y_loadBox1 (kk := 1305) · rfl rfl rfl underlying9 rfl) <| zw rfl (fun s => yl_b (y_seq s rfl rfl) hs59e) <| yw rfl (y_pick_t · rfl rfl) <| mw rfl <| zw rfl (y_boxField (o' := 2) · rfl underlying38 rfl rfl rfl) <| zw rfl (y_loadBox1 (kk := 1305) · rfl rfl rfl underlying32 rfl) <| zw rfl (y_lenSlice · rfl underlying32) <| zw rfl (fun s => yl_b (y_eqlN (i := ((r24.1.Types).length)) (j := 2) s rfl rfl) hs60e) <| yw rfl (y_pick_t · rfl rfl) <| mw rfl <| gw rfl <| gw rfl <| gw rfl <| gw rfl <| gw rfl <| gw rfl <| yw rfl (y_pick_f · rfl rfl) <| mw rfl <| gw rfl <| gw rfl <| yw rfl (y_pick_f · rfl rfl) <| mw rfl <| gw rfl <| gw rfl <| yw rfl (y_pick_f · rfl rfl) <| mw rfl <| gw rfl <| gw rfl <| gw rfl <| yw rfl (y_pick_f · rfl rfl) <| mw rfl <| gw rfl <| gw rfl <| gw rfl <| gw rfl <| yw rfl (y_pick_f · rfl rfl) <| mw rfl <| gw rfl <| gw rfl <| gw rfl <| gw rfl <| yw rfl (y_pick_f · rfl rfl) <| aw rfl <| nw fun a s => ?_
     apply wp_ret
     obtain rfl := Option.some.inj hg
     exact fin1 (fn := Tryz.f11) s rfl (r_tmp s rfl) rfl
    have hs59e := decide_eq_false hs59
    replace hg := br_f hg hs59
    refine S s <| lw <| mw rfl <| yw rfl (fun s => yl_b (y_eql s rfl rfl) hs52e) <| mw rfl <| hw rfl fun a s => ?_
    refine gl s rfl (l_buildDense (sz := 1) s 1704 rfl rfl rfl underlying25 rfl rfl rfl rfl rfl rfl rfl fun b114 a w hbb114 hK s => ?_)
    clear hbb114
    replace s := s.add 217 (rdF Rep.str (cellsOfL [vT ([99]), vT ([98]), vT ([97])]) ([[99], [98], [97]])) (RdAll.cons (by exact ⟨rfl, (Nat.le_of_ble_eq_true (by rfl))⟩) (RdAll.cons (by exact ⟨rfl, (Nat.le_of_ble_eq_true (by rfl))⟩) (RdAll.cons (by exact ⟨rfl, (Nat.le_of_ble_eq_true (by rfl))⟩) (RdAll.nil _ _ _))))
    have hT := s
    replace hT := hT.fz (R := Rep.str) (kk := 1704) [1305, 1405] 218 rfl rfl (hT.ft 217 rfl) rfl
    refine gC s rfl func14 (c_r01_Same n _ _ hT.lt _ _ _ (hT.ft 138 rfl) [[99], [98], [97]] (some ⟨b114, 0, none⟩) (3) (hT.ft 218 rfl) _ hr54) fun v115 a w hK hp s => ?_
    obtain rfl := hp.trans (congrArg Value.bool hs57)
    refine S s <| yw rfl (y_pick_t · rfl rfl) <| mw rfl <| hw rfl <| zw rfl (fun s => yl_b (y_eql s rfl rfl) hs58e) <| yw rfl (y_pick_t · rfl rfl) <| mw rfl <| zw rfl (y_boxField (o' := 0) · rfl underlying38 rfl rfl rfl) <| zw rfl (y_loadBox1 (kk := 1305) · rfl rfl rfl underlying9 rfl) <| zw rfl (fun s => yl_b (y_seq s rfl rfl) hs59e) <| yw rfl (y_pick_t · rfl rfl) <| mw rfl <| gw rfl <| gw rfl <| gw rfl <| gw rfl <| yw rfl (y_pick_f · rfl rfl) <| mw rfl <| gw rfl <| gw rfl <| gw rfl <| gw rfl <| gw rfl <| gw rfl <| yw rfl (y_pick_f · rfl rfl) <| mw rfl <| gw rfl <| gw rfl <| yw rfl (y_pick_f · rfl rfl) <| mw rfl <| gw rfl <| gw rfl <| yw rfl (y_pick_f · rfl rfl) <| mw rfl <| gw rfl <| gw rfl <| gw rfl <| yw rfl (y_pick_f · rfl rfl) <| mw rfl <| gw rfl <| gw rfl <| gw rfl <| gw rfl <| yw rfl (y_pick_f · rfl rfl) <| mw rfl <| gw rfl <| gw rfl <| gw rfl <| gw rfl <| yw rfl (y_pick_f · rfl rfl) <| aw rfl <| nw fun a s => ?_
    apply wp_ret
    obtain rfl := Option.some.inj hg
    exact fin1 (fn := Tryz.f11) s rfl (r_tmp s rfl) rfl
   have hs58e := decide_eq_false hs58
   replace hg := br_f hg hs58
   refine S s <| lw <| mw rfl <| yw rfl (fun s => yl_b (y_eql s rfl rfl) hs52e) <| mw rfl <| hw rfl fun a s => ?_
   refine gl s rfl (l_buildDense (sz := 1) s 1704 rfl rfl rfl underlying25 rfl rfl rfl rfl rfl rfl rfl fun b117 a w hbb117 hK s => ?_)
   clear hbb117
   replace s := s.add 219 (rdF Rep.str (cellsOfL [vT ([99]), vT ([98]), vT ([97])]) ([[99], [98], [97]])) (RdAll.cons (by exact ⟨rfl, (Nat.le_of_ble_eq_true (by rfl))⟩) (RdAll.cons (by exact ⟨rfl, (Nat.le_of_ble_eq_true (by rfl))⟩) (RdAll.cons (by exact ⟨rfl, (Nat.le_of_ble_eq_true (by rfl))⟩) (RdAll.nil _ _ _))))
   have hT := s
   replace hT := hT.fz (R := Rep.str) (kk := 1704) [1305, 1405] 220 rfl rfl (hT.ft 219 rfl) rfl
   refine gC s rfl func14 (c_r01_Same n _ _ hT.lt _ _ _ (hT.ft 138 rfl) [[99], [98], [97]] (some ⟨b117, 0, none⟩) (3) (hT.ft 220 rfl) _ hr54) fun v118 a w hK hp s => ?_
   obtain rfl := hp.trans (congrArg Value.bool hs57)
   refine S s <| yw rfl (y_pick_t · rfl rfl) <| mw rfl <| hw rfl <| zw rfl (fun s => yl_b (y_eql s rfl rfl) hs58e) <| yw rfl (y_pick_t · rfl rfl) <| mw rfl <| gw rfl <| gw rfl <| gw rfl <| yw rfl (y_pick_f · rfl rfl) <| mw rfl <| gw rfl <| gw rfl <| gw rfl <| gw rfl <| yw rfl (y_pick_f · rfl rfl) <| mw rfl <| gw rfl <| gw rfl <| gw rfl <| gw rfl <| gw rfl <| gw rfl <| yw rfl (y_pick_f · rfl rfl) <| mw rfl <| gw rfl <| gw rfl <| yw rfl (y_pick_f · rfl rfl) <| mw rfl <| gw rfl <| gw rfl <| yw rfl (y_pick_f · rfl rfl) <| mw rfl <| gw rfl <| gw rfl <| gw rfl <| yw rfl (y_pick_f · rfl rfl) <| mw rfl <| gw rfl <| gw rfl <| gw rfl <| gw rfl <| yw rfl (y_pick_f · rfl rfl) <| mw rfl <| gw rfl <| gw rfl <| gw rfl <| gw rfl <| yw rfl (y_pick_f · rfl rfl) <| aw rfl <| nw fun a s => ?_
   apply wp_ret
   obtain rfl := Option.some.inj hg
   exact fin1 (fn := Tryz.f11) s rfl (r_tmp s rfl) rfl
  replace hg := br_n hg hs57
  refine S s <| lw <| mw rfl <| yw rfl (fun s => yl_b (y_eql s rfl rfl) hs52e) <| mw rfl <| hw rfl fun a s => ?_
  refine gl s rfl (l_buildDense (sz := 1) s 1704 rfl rfl rfl underlying25 rfl rfl rfl rfl rfl rfl rfl fun b120 a w hbb120 hK s => ?_)
  clear hbb120
  replace s := s.add 221 (rdF Rep.str (cellsOfL [vT ([99]), vT ([98]), vT ([97])]) ([[99], [98], [97]])) (RdAll.cons (by exact ⟨rfl, (Nat.le_of_ble_eq_true (by rfl))⟩) (RdAll.cons (by exact ⟨rfl, (Nat.le_of_ble_eq_true (by rfl))⟩) (RdAll.cons (by exact ⟨rfl, (Nat.le_of_ble_eq_true (by rfl))⟩) (RdAll.nil _ _ _))))
  have hT := s
  replace hT := hT.fz (R := Rep.str) (kk := 1704) [1305, 1405] 222 rfl rfl (hT.ft 221 rfl) rfl
  refine gC s rfl func14 (c_r01_Same n _ _ hT.lt _ _ _ (hT.ft 138 rfl) [[99], [98], [97]] (some ⟨b120, 0, none⟩) (3) (hT.ft 222 rfl) _ hr54) fun v121 a w hK hp s => ?_
  obtain rfl := hp.trans (congrArg Value.bool hs57)
  refine S s <| yw rfl (y_pick_t · rfl rfl) <| mw rfl <| gw rfl <| gw rfl <| yw rfl (y_pick_f · rfl rfl) <| mw rfl <| gw rfl <| gw rfl <| gw rfl <| yw rfl (y_pick_f · rfl rfl) <| mw rfl <| gw rfl <| gw rfl <| gw rfl <| gw rfl <| yw rfl (y_pick_f · rfl rfl) <| mw rfl <| gw rfl <| gw rfl <| gw rfl <| gw rfl <| gw rfl <| gw rfl <| yw rfl (y_pick_f · rfl rfl) <| mw rfl <| gw rfl <| gw rfl <| yw rfl (y_pick_f · rfl rfl) <| mw rfl <| gw rfl <| gw rfl <| yw rfl (y_pick_f · rfl rfl) <| mw rfl <| gw rfl <| gw rfl <| gw rfl <| yw rfl (y_pick_f · rfl rfl) <| mw rfl <| gw rfl <| gw rfl <| gw rfl <| gw rfl <| yw rfl (y_pick_f · rfl rfl) <| mw rfl <| gw rfl <| gw rfl <| gw rfl <| gw rfl <| yw rfl (y_pick_f · rfl rfl) <| aw rfl <| nw fun a s => ?_
  apply wp_ret
  obtain rfl := Option.some.inj hg
  exact fin1 (fn := Tryz.f11) s rfl (r_tmp s rfl) rfl
 have hs52e := decide_eq_false hs52
 replace hg := br_f hg hs52
 refine S s <| lw <| mw rfl <| yw rfl (fun s => yl_b (y_eql s rfl rfl) hs52e) <| mw rfl <| gw rfl <| gw rfl <| gw rfl <| yw rfl (y_pick_f · rfl rfl) <| mw rfl <| gw rfl <| gw rfl <| yw rfl (y_pick_f · rfl rfl) <| mw rfl <| gw rfl <| gw rfl <| gw rfl <| yw rfl (y_pick_f · rfl rfl) <| mw rfl <| gw rfl <| gw rfl <| gw rfl <| gw rfl <| yw rfl (y_pick_f · rfl rfl) <| mw rfl <| gw rfl <| gw rfl <| gw rfl <| gw rfl <| gw rfl <| gw rfl <| yw rfl (y_pick_f · rfl rfl) <| mw rfl <| gw rfl <| gw rfl <| yw rfl (y_pick_f · rfl rfl) <| mw rfl <| gw rfl <| gw rfl <| yw rfl (y_pick_f · rfl rfl) <| mw rfl <| gw rfl <| gw rfl <| gw rfl <| yw rfl (y_pick_f · rfl rfl) <| mw rfl <| gw rfl <| gw rfl <| gw rfl <| gw rfl <| yw rfl (y_pick_f · rfl rfl) <| mw rfl <| gw rfl <| gw rfl <| gw rfl <| gw rfl <| yw rfl (y_pick_f · rfl rfl) <| aw rfl <| nw fun a s => ?_
 apply wp_ret
 obtain rfl := Option.some.inj hg
 exact fin1 (fn := Tryz.f11) s rfl (r_tmp s rfl) rfl
end Go.Proofs.YtbhjplflnkidgaaGreat

