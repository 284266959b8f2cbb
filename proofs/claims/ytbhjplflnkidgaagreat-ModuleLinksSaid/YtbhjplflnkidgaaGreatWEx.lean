/- Chapter 22: the walk of the examples -/
import Derived.Test.YtbhjplflnkidgaaGreatAU
import Derived.Test.YtbhjplflnkidgaaGreatWLink
namespace Go.Proofs.YtbhjplflnkidgaaGreat
open Go.Gl Go.RowKit Tryz
set_option linter.unusedVariables false
set_option linter.unusedSimpArgs false
set_option maxRecDepth 4000
set_option maxHeartbeats 1000000
theorem c_law22_exampleHolds (n : Nat) (M : Bs) (w0 : World) (hM : bM M w0)  (r : Bool) (hg : law22_exampleHolds n = some r) :
    CA Tryz.prog 11 [] w0 (fun v w => v = .bool (r)) := by
 unfold law22_exampleHolds at hg
 refine enter M noB func11 q q hM ?_
 intro a s
 refine S s<|vw<|aw q<|nw<|vw fun a s => ?_
 refine l_seq q (l_buildDense (sz := 1) s 1100 q q q u25 q q q q q q q fun V0 a w P1 hK s => ?_)
 clear P1
 refine l_seq q (l_buildDense (sz := 1) s 1101 q q q u25 q q q q q q q fun X0 a w S1 hK s => ?_)
 clear S1
 replace s := s.add 117 (rdF Rep.str (cellsOfL [vT ([121])]) ([[121]])) (RdAll.cons (by exact ⟨q, lz⟩) (rN))
 replace s := s.freeze (R := Rep.str) (kk := 1101) (L' := [(1100, Ob.row (some ⟨V0, 0, none⟩) (2) (2) 9 1 (cellsOfL [vT ([98]), vT ([99])]))]) 118 q q (s.ft 117 q) ⟨q, trivial⟩ q
 refine qq s q (y_build (parts := [(0, .const (vT ([120]))), (1, .tmp 12)]) (ps := [(0, vT ([120])), (1, .slice (some ⟨X0, 0, none⟩) (1) (1))]) (cells := #[vT ([120]), .slice (some ⟨X0, 0, none⟩) (1) (1), nS]) s q (by kernel_rfl)) fun a s => ?_
 refine l_seq q (l_buildDense (sz := 3) s 1103 q q q u32 q q q q q q q fun Y0 a w X1 hK s => ?_)
 clear X1
 replace s := s.add 119 (rdF Rep.str (cellsOfL [vT ([98]), vT ([99])]) ([[98], [99]])) (RdAll.cons (by exact ⟨q, lz⟩) (RdAll.cons (by exact ⟨q, lz⟩) (rN)))
 replace s := s.freeze (R := Rep.str) (kk := 1100) (L' := [(1103, Ob.row (some ⟨Y0, 0, none⟩) (1) (1) 49 3 (cellsOfL [.agg #[vT ([120]), .slice (some ⟨X0, 0, none⟩) (1) (1), nS]]))]) 120 q q (s.ft 119 q) ⟨q, trivial⟩ q
 replace s := s.add 121 (rdF RTypeDecl (cellsOfL [.agg #[_, _, _]]) ([(TypeDecl.mk [120] [[121]] [])])) (RdAll.cons (by exact (RTypeDecl.mk' (x := (TypeDecl.mk [120] [[121]] [])) lz (s.ft 118 q) (SlR.nil_ _ _ _))) (rN))
 replace s := s.freeze (R := RTypeDecl) (kk := 1103) (L' := []) 122 q q (s.ft 121 q) trivial q
 refine qq s q (y_build (parts := [(0, .const (vT ([97]))), (1, .tmp 11), (2, .tmp 14)]) (ps := [(0, vT ([97])), (1, .slice (some ⟨V0, 0, none⟩) (2) (2)), (2, .slice (some ⟨Y0, 0, none⟩) (1) (1))]) (cells := #[vT ([97]), .slice (some ⟨V0, 0, none⟩) (2) (2), .slice (some ⟨Y0, 0, none⟩) (1) (1), nS, nS, nS, nS, nS, nS, nS]) s q (by kernel_rfl)) fun a s => ?_
 refine l_seq q (l_buildDense (sz := 1) s 1105 q q q u25 q q q q q q q fun t1 a w Z1 hK s => ?_)
 clear Z1
 replace s := s.add 123 (rdF Rep.str (cellsOfL [vT ([99])]) ([[99]])) (RdAll.cons (by exact ⟨q, lz⟩) (rN))
 replace s := s.freeze (R := Rep.str) (kk := 1105) (L' := []) 124 q q (s.ft 123 q) trivial q
 refine qq s q (y_build (parts := [(0, .const (vT ([98]))), (1, .tmp 16)]) (ps := [(0, vT ([98])), (1, .slice (some ⟨t1, 0, none⟩) (1) (1))]) (cells := #[vT ([98]), .slice (some ⟨t1, 0, none⟩) (1) (1), nS, nS, nS, nS, nS, nS, nS, nS]) s q (by kernel_rfl)) fun a s => ?_
 refine l_seq q (l_buildDense (sz := 1) s 1107 q q q u25 q q q q q q q fun u1 a w a2 hK s => ?_)
 clear a2
 replace s := s.add 125 (rdF Rep.str (cellsOfL [vT ([116, 111, 112])]) ([[116, 111, 112]])) (RdAll.cons (by exact ⟨q, lz⟩) (rN))
 replace s := s.freeze (R := Rep.str) (kk := 1107) (L' := []) 126 q q (s.ft 125 q) trivial q
 refine qq s q (y_build (parts := [(0, .const (vT ([121]))), (1, .tmp 18)]) (ps := [(0, vT ([121])), (1, .slice (some ⟨u1, 0, none⟩) (1) (1))]) (cells := #[vT ([121]), .slice (some ⟨u1, 0, none⟩) (1) (1), nS]) s q (by kernel_rfl)) fun a s => ?_
 refine l_seq q (l_buildDense (sz := 3) s 1109 q q q u32 q q q q q q q fun v1 a w b2 hK s => ?_)
 clear b2
 replace s := s.add 127 (rdF RTypeDecl (cellsOfL [.agg #[_, _, _]]) ([(TypeDecl.mk [121] [[116, 111, 112]] [])])) (RdAll.cons (by exact (RTypeDecl.mk' (x := (TypeDecl.mk [121] [[116, 111, 112]] [])) lz (s.ft 126 q) (SlR.nil_ _ _ _))) (rN))
 replace s := s.freeze (R := RTypeDecl) (kk := 1109) (L' := []) 128 q q (s.ft 127 q) trivial q
 refine qq s q (y_build (parts := [(0, .const (vT ([99]))), (2, .tmp 20)]) (ps := [(0, vT ([99])), (2, .slice (some ⟨v1, 0, none⟩) (1) (1))]) (cells := #[vT ([99]), nS, .slice (some ⟨v1, 0, none⟩) (1) (1), nS, nS, nS, nS, nS, nS, nS]) s q (by kernel_rfl)) fun a s => ?_
 refine l_seq q (l_buildDense (sz := 1) s 1111 q q q u25 q q q q q q q fun w1 a w c2 hK s => ?_)
 clear c2
 replace s := s.add 129 (rdF Rep.str (cellsOfL [vT ([121])]) ([[121]])) (RdAll.cons (by exact ⟨q, lz⟩) (rN))
 replace s := s.freeze (R := Rep.str) (kk := 1111) (L' := []) 130 q q (s.ft 129 q) trivial q
 refine qq s q (y_build (parts := [(0, .const (vT ([122]))), (1, .tmp 22)]) (ps := [(0, vT ([122])), (1, .slice (some ⟨w1, 0, none⟩) (1) (1))]) (cells := #[vT ([122]), .slice (some ⟨w1, 0, none⟩) (1) (1), nS]) s q (by kernel_rfl)) fun a s => ?_
 refine l_seq q (l_buildDense (sz := 3) s 1113 q q q u32 q q q q q q q fun x1 a w d2 hK s => ?_)
 clear d2
 replace s := s.add 131 (rdF RTypeDecl (cellsOfL [.agg #[_, _, _]]) ([(TypeDecl.mk [122] [[121]] [])])) (RdAll.cons (by exact (RTypeDecl.mk' (x := (TypeDecl.mk [122] [[121]] [])) lz (s.ft 130 q) (SlR.nil_ _ _ _))) (rN))
 replace s := s.freeze (R := RTypeDecl) (kk := 1113) (L' := []) 132 q q (s.ft 131 q) trivial q
 refine qq s q (y_build (parts := [(0, .const (vT ([100]))), (2, .tmp 24)]) (ps := [(0, vT ([100])), (2, .slice (some ⟨x1, 0, none⟩) (1) (1))]) (cells := #[vT ([100]), nS, .slice (some ⟨x1, 0, none⟩) (1) (1), nS, nS, nS, nS, nS, nS, nS]) s q (by kernel_rfl)) fun a s => ?_
 refine l_seq q (l_buildDense (sz := 10) s 1115 q q q u22 q q q q q q q fun x0 a w e2 hK s => ?_)
 clear e2
 obtain ⟨Z3, w3, hg⟩ := zB hg
 refine S s<|aw q<|nw<|sw<|lw<|mw q fun a s => ?_
 replace s := s.add 136 (rdF RModule (cellsOfL [.agg #[_, _, _, _, _, _, _, _, _, _], .agg #[_, _, _, _, _, _, _, _, _, _], .agg #[_, _, _, _, _, _, _, _, _, _], .agg #[_, _, _, _, _, _, _, _, _, _]]) ([(Module.mk [97] [[98], [99]] [(TypeDecl.mk [120] [[121]] [])] [] [] [] [] [] [] []), (Module.mk [98] [[99]] [] [] [] [] [] [] [] []), (Module.mk [99] [] [(TypeDecl.mk [121] [[116, 111, 112]] [])] [] [] [] [] [] [] []), (Module.mk [100] [] [(TypeDecl.mk [122] [[121]] [])] [] [] [] [] [] [] [])])) (RdAll.cons (by exact (RModule.mk' (x := (Module.mk [97] [[98], [99]] [(TypeDecl.mk [120] [[121]] [])] [] [] [] [] [] [] [])) lz (s.ft 120 q) (s.ft 122 q) (SlR.nil_ _ _ _) (SlR.nil_ _ _ _) (SlR.nil_ _ _ _) (SlR.nil_ _ _ _) (SlR.nil_ _ _ _) (SlR.nil_ _ _ _) (SlR.nil_ _ _ _))) (RdAll.cons (by exact (RModule.mk' (x := (Module.mk [98] [[99]] [] [] [] [] [] [] [] [])) lz (s.ft 124 q) (SlR.nil_ _ _ _) (SlR.nil_ _ _ _) (SlR.nil_ _ _ _) (SlR.nil_ _ _ _) (SlR.nil_ _ _ _) (SlR.nil_ _ _ _) (SlR.nil_ _ _ _) (SlR.nil_ _ _ _))) (RdAll.cons (by exact (RModule.mk' (x := (Module.mk [99] [] [(TypeDecl.mk [121] [[116, 111, 112]] [])] [] [] [] [] [] [] [])) lz (SlR.nil_ _ _ _) (s.ft 128 q) (SlR.nil_ _ _ _) (SlR.nil_ _ _ _) (SlR.nil_ _ _ _) (SlR.nil_ _ _ _) (SlR.nil_ _ _ _) (SlR.nil_ _ _ _) (SlR.nil_ _ _ _))) (RdAll.cons (by exact (RModule.mk' (x := (Module.mk [100] [] [(TypeDecl.mk [122] [[121]] [])] [] [] [] [] [] [] [])) lz (SlR.nil_ _ _ _) (s.ft 132 q) (SlR.nil_ _ _ _) (SlR.nil_ _ _ _) (SlR.nil_ _ _ _) (SlR.nil_ _ _ _) (SlR.nil_ _ _ _) (SlR.nil_ _ _ _) (SlR.nil_ _ _ _))) (rN)))))
 replace s := s.freeze (R := RModule) (kk := 1115) (L' := []) 137 q q (s.ft 136 q) trivial q
 refine lC s q func12 (c_module_Order n _ _ s.lt [(Module.mk [97] [[98], [99]] [(TypeDecl.mk [120] [[121]] [])] [] [] [] [] [] [] []), (Module.mk [98] [[99]] [] [] [] [] [] [] [] []), (Module.mk [99] [] [(TypeDecl.mk [121] [[116, 111, 112]] [])] [] [] [] [] [] [] []), (Module.mk [100] [] [(TypeDecl.mk [122] [[121]] [])] [] [] [] [] [] [] [])] (some ⟨x0, 0, none⟩) (4) (s.ft 137 q) _ lz _ w3) fun x5 a w hK hp s => ?_
 obtain ⟨r4, S4, rfl, C3⟩ := hp
 obtain ⟨a0, x3, hg⟩ := zB hg
 refine S s<|nsw 138 C3<|mw q<|yw q (y_extract · q q)<|yw q (y_extract · q q)<|aw q<|aw q<|nw<|sw<|lw<|mw q fun a s => ?_
 refine lC s q func17 (c_module_Link n _ _ s.lt [(Module.mk [97] [[98], [99]] [(TypeDecl.mk [120] [[121]] [])] [] [] [] [] [] [] []), (Module.mk [98] [[99]] [] [] [] [] [] [] [] []), (Module.mk [99] [] [(TypeDecl.mk [121] [[116, 111, 112]] [])] [] [] [] [] [] [] []), (Module.mk [100] [] [(TypeDecl.mk [122] [[121]] [])] [] [] [] [] [] [] [])] (some ⟨x0, 0, none⟩) (4) (s.ft 137 q) _ lz _ x3) fun y5 a w hK hp s => ?_
 obtain ⟨D0, a1, E0, b1, F0, c1, G0, d1, H0, e1, I0, g1, J0, h1, K0, i1, C0, Z0, rfl, g5, E3, F3, G3, H3, I3, J3, K3, L3, D3⟩ := hp
 refine S s<|nsw 148 E3<|nsw 149 F3<|nsw 150 G3<|nsw 151 H3<|nsw 152 I3<|nsw 153 J3<|nsw 154 K3<|nsw 155 L3<|nsw 156 D3<|mw q<|yw q (y_extract · q q)<|yw q (y_extract · q q) fun a s => ?_
 refine l_seq q (l_alloc (zs := [vT ([]), nS, nS, nS, nS, nS, nS, nS, nS, nS]) s 1305 q q q q fun y1 a w hb hK s => ?_)
 refine l_seq q (l_store (n := 10) (cs' := [vT a0.1.Name, sl D0 a0.1.Imports a1, sl E0 a0.1.Types b1, sl F0 a0.1.Templates c1, sl G0 a0.1.Entries d1, sl H0 a0.1.LexRules e1, sl I0 a0.1.Rules g1, sl J0 a0.1.Roots h1, sl K0 a0.1.Checks i1, sl C0 a0.1.Drops Z0]) s 1305 q q q q q q q q ?_); clear s; intro w hK s; clear hK
 obtain ⟨b0, y3, hg⟩ := zB hg
 refine S s<|aw q<|nw<|sw<|lw<|mw q fun a s => ?_
 refine lC s q func17 (c_module_Link n _ _ s.lt [(Module.mk [97] [[98], [99]] [(TypeDecl.mk [120] [[121]] [])] [] [] [] [] [] [] []), (Module.mk [98] [[99]] [] [] [] [] [] [] [] []), (Module.mk [99] [] [(TypeDecl.mk [121] [[116, 111, 112]] [])] [] [] [] [] [] [] []), (Module.mk [100] [] [(TypeDecl.mk [122] [[121]] [])] [] [] [] [] [] [] [])] (some ⟨x0, 0, none⟩) (4) (s.ft 137 q) _ lz _ y3) fun z5 a w hK hp s => ?_
 obtain ⟨M0, k1, O0, l1, P0, m1, Q0, n1, R0, o1, S0, p1, T0, q1, U0, r1, L0, j1, rfl, h5, O3, P3, Q3, R3, S3, T3, U3, V3, M3⟩ := hp
 refine S s<|nsw 166 O3<|nsw 167 P3<|nsw 168 Q3<|nsw 169 R3<|nsw 170 S3<|nsw 171 T3<|nsw 172 U3<|nsw 173 V3<|nsw 174 M3<|mw q<|yw q (y_extract · q q)<|yw q (y_extract · q q) fun a s => ?_
 refine l_seq q (l_alloc (zs := [vT ([]), nS, nS, nS, nS, nS, nS, nS, nS, nS]) s 1405 q q q q fun z1 a w hb hK s => ?_)
 refine l_seq q (l_store (n := 10) (cs' := [vT b0.1.Name, sl M0 b0.1.Imports k1, sl O0 b0.1.Types l1, sl P0 b0.1.Templates m1, sl Q0 b0.1.Entries n1, sl R0 b0.1.LexRules o1, sl S0 b0.1.Rules p1, sl T0 b0.1.Roots q1, sl U0 b0.1.Checks r1, sl L0 b0.1.Drops j1]) s 1405 q q q q q q q q ?_); clear s; intro w hK s; clear hK
 obtain ⟨a4, z3, hg⟩ := zB hg
 refine S s<|aw q<|nw<|sw<|lw fun a s => ?_
 refine l_seq q (l_buildDense (sz := 1) s 1500 q q q u25 q q q q q q q fun B1 a w g2 hK s => ?_)
 clear g2
 replace s := s.add 180 (rdF Rep.str (cellsOfL [vT ([97])]) ([[97]])) (RdAll.cons (by exact ⟨q, lz⟩) (rN))
 replace s := s.freeze (R := Rep.str) (kk := 1500) (L' := [(1305, Ob.box y1 [vT a0.1.Name, sl D0 a0.1.Imports a1, sl E0 a0.1.Types b1, sl F0 a0.1.Templates c1, sl G0 a0.1.Entries d1, sl H0 a0.1.LexRules e1, sl I0 a0.1.Rules g1, sl J0 a0.1.Roots h1, sl K0 a0.1.Checks i1, sl C0 a0.1.Drops Z0] 38), (1405, Ob.box z1 [vT b0.1.Name, sl M0 b0.1.Imports k1, sl O0 b0.1.Types l1, sl P0 b0.1.Templates m1, sl Q0 b0.1.Entries n1, sl R0 b0.1.LexRules o1, sl S0 b0.1.Rules p1, sl T0 b0.1.Roots q1, sl U0 b0.1.Checks r1, sl L0 b0.1.Drops j1] 38)]) 181 q q (s.ft 180 q) ⟨q, q, trivial⟩ q
 refine qq s q (y_build (parts := [(0, .const (vT ([97]))), (1, .tmp 43)]) (ps := [(0, vT ([97])), (1, .slice (some ⟨B1, 0, none⟩) (1) (1))]) (cells := #[vT ([97]), .slice (some ⟨B1, 0, none⟩) (1) (1), nS, nS, nS, nS, nS, nS, nS, nS]) s q (by kernel_rfl)) fun a s => ?_
 refine l_seq q (l_buildDense (sz := 10) s 1502 q q q u22 q q q q q q q fun J1 a w h2 hK s => ?_)
 clear h2
 replace s := s.add 182 (rdF RModule (cellsOfL [.agg #[_, _, _, _, _, _, _, _, _, _]]) ([(Module.mk [97] [[97]] [] [] [] [] [] [] [] [])])) (RdAll.cons (by exact (RModule.mk' (x := (Module.mk [97] [[97]] [] [] [] [] [] [] [] [])) lz (s.ft 181 q) (SlR.nil_ _ _ _) (SlR.nil_ _ _ _) (SlR.nil_ _ _ _) (SlR.nil_ _ _ _) (SlR.nil_ _ _ _) (SlR.nil_ _ _ _) (SlR.nil_ _ _ _) (SlR.nil_ _ _ _))) (rN))
 replace s := s.freeze (R := RModule) (kk := 1502) (L' := [(1305, Ob.box y1 [vT a0.1.Name, sl D0 a0.1.Imports a1, sl E0 a0.1.Types b1, sl F0 a0.1.Templates c1, sl G0 a0.1.Entries d1, sl H0 a0.1.LexRules e1, sl I0 a0.1.Rules g1, sl J0 a0.1.Roots h1, sl K0 a0.1.Checks i1, sl C0 a0.1.Drops Z0] 38), (1405, Ob.box z1 [vT b0.1.Name, sl M0 b0.1.Imports k1, sl O0 b0.1.Types l1, sl P0 b0.1.Templates m1, sl Q0 b0.1.Entries n1, sl R0 b0.1.LexRules o1, sl S0 b0.1.Rules p1, sl T0 b0.1.Roots q1, sl U0 b0.1.Checks r1, sl L0 b0.1.Drops j1] 38)]) 183 q q (s.ft 182 q) ⟨q, q, trivial⟩ q
 refine lC s q func12 (c_module_Order n _ _ s.lt [(Module.mk [97] [[97]] [] [] [] [] [] [] [] [])] (some ⟨J1, 0, none⟩) (1) (s.ft 183 q) _ lz _ z3) fun B5 a w hK hp s => ?_
 obtain ⟨s4, T4, rfl, X3⟩ := hp
 obtain ⟨B0, B3, hg⟩ := zB hg
 refine S s<|nsw 184 X3<|mw q<|yw q (y_extract · q q)<|yw q (y_extract · q q)<|aw q<|aw q<|nw<|sw<|lw<|mw q fun a s => ?_
 refine lC s q func15 (c_module_Visible n _ _ s.lt [(Module.mk [97] [[98], [99]] [(TypeDecl.mk [120] [[121]] [])] [] [] [] [] [] [] []), (Module.mk [98] [[99]] [] [] [] [] [] [] [] []), (Module.mk [99] [] [(TypeDecl.mk [121] [[116, 111, 112]] [])] [] [] [] [] [] [] []), (Module.mk [100] [] [(TypeDecl.mk [122] [[121]] [])] [] [] [] [] [] [] [])] (some ⟨x0, 0, none⟩) (4) (s.ft 137 q) _ lz _ B3) fun C5 a w hK hp s => ?_
 obtain ⟨t4, U4, rfl, Y3⟩ := hp
 refine S s<|nsw 186 Y3<|aw q<|nw<|sw fun a s => ?_
 rcases Decidable.em (Z3.2 = 0) with m0 | m0
 ·have d0 := decide_eq_true m0
  replace hg := br_t hg m0
  obtain ⟨b4, g0, hg⟩ := zB hg
  rcases Bool.eq_false_or_eq_true (b4) with c0 | c0
  ·replace hg := br_t hg c0
   rcases Decidable.em (a0.2 = 0) with n0 | n0
   ·have h0 := decide_eq_true n0
    replace hg := br_t hg n0
    rcases Decidable.em ((a0.1.Name : List UInt8) = [97]) with o0 | o0
    ·have i0 := decide_eq_true o0
     replace hg := br_t hg o0
     rcases Decidable.em (((a0.1.Types).length) = 2) with p0 | p0
     ·have j0 := decide_eq_true p0
      replace hg := br_t hg p0
      obtain ⟨c4, e0, hg⟩ := zB hg
      rcases Decidable.em ((c4.Name : List UInt8) = [121]) with q0 | q0
      ·have k0 := decide_eq_true q0
       replace hg := br_t hg q0
       rcases Decidable.em (b0.2 = 5) with r0 | r0
       ·have l0 := decide_eq_true r0
        replace hg := br_t hg r0
        rcases Decidable.em (a4.2 = 6) with s0 | s0
        ·have t0 := decide_eq_true s0
         replace hg := br_t hg s0
         rcases Decidable.em (((B0).length) = 14) with u0 | u0
         ·have y0 := decide_eq_true u0
          replace hg := br_t hg u0
          obtain ⟨d4, z0, hg⟩ := zB hg
          rcases Decidable.em ((d4 : List UInt8) = [121]) with v0 | v0
          ·have s1 := decide_eq_true v0
           replace hg := br_t hg v0
           obtain ⟨H5, C1, hg⟩ := zB hg
           refine S s<|lw<|mw q<|yw q (fun s => yl_b (y_eql s q q) d0)<|mw q<|hw q fun a s => ?_
           refine gl s q (l_buildDense (sz := 1) s 1704 q q q u25 q q q q q q q fun K1 a w i2 hK s => ?_)
           clear i2
           replace s := s.add 191 (rdF Rep.str (cellsOfL [vT ([99]), vT ([98]), vT ([97])]) ([[99], [98], [97]])) (RdAll.cons (by exact ⟨q, lz⟩) (RdAll.cons (by exact ⟨q, lz⟩) (RdAll.cons (by exact ⟨q, lz⟩) (rN))))
           have hT := s
           replace hT := hT.fz (R := Rep.str) (kk := 1704) [1305, 1405] 192 q q (hT.ft 191 q) q
           refine gC s q func14 (c_r01_Same n _ _ hT.lt _ _ _ (hT.ft 138 q) [[99], [98], [97]] (some ⟨K1, 0, none⟩) (3) (hT.ft 192 q) _ g0) fun D5 a w hK hp s => ?_
           obtain rfl := hp.trans (congrArg Value.bool c0)
           refine S s<|tw_ q<|mw q<|hw q<|zw q (fun s => yl_b (y_eql s q q) h0)<|tw_ q<|mw q<|zw q (bF 0 · u38 q)<|zw q (lB 1305 · u9 q)<|zw q (fun s => yl_b (y_seq s q q) i0)<|tw_ q<|mw q<|zw q (bF 2 · u38 q)<|zw q (lB 1305 · u32 q)<|zw q (lS · q u32)<|zw q (fun s => yl_b (y_eqlN (i := ((a0.1.Types).length)) (j := 2) s q q) j0)<|tw_ q<|mw q<|zw q (bF 2 · u38 q)<|zw q (lB 1305 · u32 q) fun a s => ?_
           obtain ⟨k5, H2, S2, c3, L4, y2, p2⟩ := SlR.elemX (s.ft 149 q) e0
           refine S s<|zw q (eL 3 0 · u32 H2 (lt_of_get e0) q)<|zw q (pF 0 · u49 q) fun a s => ?_
           obtain ⟨l4, C4, m4, D4, rfl, Z4, p3, q3⟩ := RTypeDecl.open y2
           refine S s<|nsw 193 p3<|nsw 194 q3<|zw q (lP · S2 c3 (p2 0 _ q) u9 q)<|zw q (fun s => yl_b (y_seq s q q) k0)<|tw_ q<|mw q<|hw q<|zw q (fun s => yl_b (y_eql s q q) l0)<|tw_ q<|mw q<|hw q<|zw q (fun s => yl_b (y_eql s q q) t0)<|tw_ q<|mw q<|hw q<|zw q (lS · q u25)<|zw q (fun s => yl_b (y_eqlN (i := ((B0).length)) (j := 14) s q q) y0)<|tw_ q<|mw q<|hw q fun a s => ?_
           obtain ⟨l5, I2, T2, d3, M4, z2, q2⟩ := SlR.elemX (s.ft 186 q) z0
           refine gy s q (eL 1 13 s u25 I2 (lt_of_get z0) q) fun a s => ?_
           obtain ⟨rfl, a5⟩ := z2
           refine S s<|zw q (lP · T2 d3 (q2 0 _ q) u9 q)<|zw q (fun s => yl_b (y_seq s q q) s1)<|tw_ q<|mw q<|hw q fun a s => ?_
           obtain ⟨m5, J2, U2, e3, O4, B2, r2⟩ := SlR.elemX (s.ft 186 q) C1
           refine gy s q (eL 1 0 s u25 J2 (lt_of_get C1) q) fun a s => ?_
           obtain ⟨rfl, b5⟩ := B2
           refine S s<|zw q (lP · U2 e3 (r2 0 _ q) u9 q)<|zw q (y_seq · q q)<|tw_ q<|aw q<|nw fun a s => ?_
           apply wp_ret
           obtain rfl := si hg
           exact fT f11 s q q q
          have s1 := decide_eq_false v0
          replace hg := br_f hg v0
          refine S s<|lw<|mw q<|yw q (fun s => yl_b (y_eql s q q) d0)<|mw q<|hw q fun a s => ?_
          refine gl s q (l_buildDense (sz := 1) s 1704 q q q u25 q q q q q q q fun L1 a w j2 hK s => ?_)
          clear j2
          replace s := s.add 195 (rdF Rep.str (cellsOfL [vT ([99]), vT ([98]), vT ([97])]) ([[99], [98], [97]])) (RdAll.cons (by exact ⟨q, lz⟩) (RdAll.cons (by exact ⟨q, lz⟩) (RdAll.cons (by exact ⟨q, lz⟩) (rN))))
          have hT := s
          replace hT := hT.fz (R := Rep.str) (kk := 1704) [1305, 1405] 196 q q (hT.ft 195 q) q
          refine gC s q func14 (c_r01_Same n _ _ hT.lt _ _ _ (hT.ft 138 q) [[99], [98], [97]] (some ⟨L1, 0, none⟩) (3) (hT.ft 196 q) _ g0) fun E5 a w hK hp s => ?_
          obtain rfl := hp.trans (congrArg Value.bool c0)
          refine S s<|tw_ q<|mw q<|hw q<|zw q (fun s => yl_b (y_eql s q q) h0)<|tw_ q<|mw q<|zw q (bF 0 · u38 q)<|zw q (lB 1305 · u9 q)<|zw q (fun s => yl_b (y_seq s q q) i0)<|tw_ q<|mw q<|zw q (bF 2 · u38 q)<|zw q (lB 1305 · u32 q)<|zw q (lS · q u32)<|zw q (fun s => yl_b (y_eqlN (i := ((a0.1.Types).length)) (j := 2) s q q) j0)<|tw_ q<|mw q<|zw q (bF 2 · u38 q)<|zw q (lB 1305 · u32 q) fun a s => ?_
          obtain ⟨n5, K2, V2, g3, P4, C2, s2⟩ := SlR.elemX (s.ft 149 q) e0
          refine S s<|zw q (eL 3 0 · u32 K2 (lt_of_get e0) q)<|zw q (pF 0 · u49 q) fun a s => ?_
          obtain ⟨n4, E4, o4, F4, rfl, c5, r3, s3⟩ := RTypeDecl.open C2
          refine S s<|nsw 197 r3<|nsw 198 s3<|zw q (lP · V2 g3 (s2 0 _ q) u9 q)<|zw q (fun s => yl_b (y_seq s q q) k0)<|tw_ q<|mw q<|hw q<|zw q (fun s => yl_b (y_eql s q q) l0)<|tw_ q<|mw q<|hw q<|zw q (fun s => yl_b (y_eql s q q) t0)<|tw_ q<|mw q<|hw q<|zw q (lS · q u25)<|zw q (fun s => yl_b (y_eqlN (i := ((B0).length)) (j := 14) s q q) y0)<|tw_ q<|mw q<|hw q fun a s => ?_
          obtain ⟨o5, L2, X2, h3, Q4, D2, t2⟩ := SlR.elemX (s.ft 186 q) z0
          refine gy s q (eL 1 13 s u25 L2 (lt_of_get z0) q) fun a s => ?_
          obtain ⟨rfl, d5⟩ := D2
          refine S s<|zw q (lP · X2 h3 (t2 0 _ q) u9 q)<|zw q (fun s => yl_b (y_seq s q q) s1)<|tw_ q<|mw q<|gw q<|gw q<|gw q<|gw q<|fw q<|aw q<|nw fun a s => ?_
          apply wp_ret
          obtain rfl := si hg
          exact fT f11 s q q q
         have y0 := decide_eq_false u0
         replace hg := br_f hg u0
         refine S s<|lw<|mw q<|yw q (fun s => yl_b (y_eql s q q) d0)<|mw q<|hw q fun a s => ?_
         refine gl s q (l_buildDense (sz := 1) s 1704 q q q u25 q q q q q q q fun M1 a w k2 hK s => ?_)
         clear k2
         replace s := s.add 199 (rdF Rep.str (cellsOfL [vT ([99]), vT ([98]), vT ([97])]) ([[99], [98], [97]])) (RdAll.cons (by exact ⟨q, lz⟩) (RdAll.cons (by exact ⟨q, lz⟩) (RdAll.cons (by exact ⟨q, lz⟩) (rN))))
         have hT := s
         replace hT := hT.fz (R := Rep.str) (kk := 1704) [1305, 1405] 200 q q (hT.ft 199 q) q
         refine gC s q func14 (c_r01_Same n _ _ hT.lt _ _ _ (hT.ft 138 q) [[99], [98], [97]] (some ⟨M1, 0, none⟩) (3) (hT.ft 200 q) _ g0) fun F5 a w hK hp s => ?_
         obtain rfl := hp.trans (congrArg Value.bool c0)
         refine S s<|tw_ q<|mw q<|hw q<|zw q (fun s => yl_b (y_eql s q q) h0)<|tw_ q<|mw q<|zw q (bF 0 · u38 q)<|zw q (lB 1305 · u9 q)<|zw q (fun s => yl_b (y_seq s q q) i0)<|tw_ q<|mw q<|zw q (bF 2 · u38 q)<|zw q (lB 1305 · u32 q)<|zw q (lS · q u32)<|zw q (fun s => yl_b (y_eqlN (i := ((a0.1.Types).length)) (j := 2) s q q) j0)<|tw_ q<|mw q<|zw q (bF 2 · u38 q)<|zw q (lB 1305 · u32 q) fun a s => ?_
         obtain ⟨p5, M2, Y2, i3, R4, E2, u2⟩ := SlR.elemX (s.ft 149 q) e0
         refine S s<|zw q (eL 3 0 · u32 M2 (lt_of_get e0) q)<|zw q (pF 0 · u49 q) fun a s => ?_
         obtain ⟨p4, G4, q4, H4, rfl, e5, t3, v3⟩ := RTypeDecl.open E2
         refine S s<|nsw 201 t3<|nsw 202 v3<|zw q (lP · Y2 i3 (u2 0 _ q) u9 q)<|zw q (fun s => yl_b (y_seq s q q) k0)<|tw_ q<|mw q<|hw q<|zw q (fun s => yl_b (y_eql s q q) l0)<|tw_ q<|mw q<|hw q<|zw q (fun s => yl_b (y_eql s q q) t0)<|tw_ q<|mw q<|hw q<|zw q (lS · q u25)<|zw q (fun s => yl_b (y_eqlN (i := ((B0).length)) (j := 14) s q q) y0)<|tw_ q<|mw q<|gw q<|gw q<|gw q<|gw q<|fw q<|mw q<|gw q<|gw q<|gw q<|gw q<|fw q<|aw q<|nw fun a s => ?_
         apply wp_ret
         obtain rfl := si hg
         exact fT f11 s q q q
        have t0 := decide_eq_false s0
        replace hg := br_f hg s0
        refine S s<|lw<|mw q<|yw q (fun s => yl_b (y_eql s q q) d0)<|mw q<|hw q fun a s => ?_
        refine gl s q (l_buildDense (sz := 1) s 1704 q q q u25 q q q q q q q fun O1 a w l2 hK s => ?_)
        clear l2
        replace s := s.add 203 (rdF Rep.str (cellsOfL [vT ([99]), vT ([98]), vT ([97])]) ([[99], [98], [97]])) (RdAll.cons (by exact ⟨q, lz⟩) (RdAll.cons (by exact ⟨q, lz⟩) (RdAll.cons (by exact ⟨q, lz⟩) (rN))))
        have hT := s
        replace hT := hT.fz (R := Rep.str) (kk := 1704) [1305, 1405] 204 q q (hT.ft 203 q) q
        refine gC s q func14 (c_r01_Same n _ _ hT.lt _ _ _ (hT.ft 138 q) [[99], [98], [97]] (some ⟨O1, 0, none⟩) (3) (hT.ft 204 q) _ g0) fun G5 a w hK hp s => ?_
        obtain rfl := hp.trans (congrArg Value.bool c0)
        refine S s<|tw_ q<|mw q<|hw q<|zw q (fun s => yl_b (y_eql s q q) h0)<|tw_ q<|mw q<|zw q (bF 0 · u38 q)<|zw q (lB 1305 · u9 q)<|zw q (fun s => yl_b (y_seq s q q) i0)<|tw_ q<|mw q<|zw q (bF 2 · u38 q)<|zw q (lB 1305 · u32 q)<|zw q (lS · q u32)<|zw q (fun s => yl_b (y_eqlN (i := ((a0.1.Types).length)) (j := 2) s q q) j0)<|tw_ q<|mw q<|zw q (bF 2 · u38 q)<|zw q (lB 1305 · u32 q) fun a s => ?_
        obtain ⟨q5, O2, P2, Z2, I4, v2, m2⟩ := SlR.elemX (s.ft 149 q) e0
        refine S s<|zw q (eL 3 0 · u32 O2 (lt_of_get e0) q)<|zw q (pF 0 · u49 q) fun a s => ?_
        obtain ⟨e4, v4, g4, w4, rfl, V4, j3, k3⟩ := RTypeDecl.open v2
        refine S s<|nsw 205 j3<|nsw 206 k3<|zw q (lP · P2 Z2 (m2 0 _ q) u9 q)<|zw q (fun s => yl_b (y_seq s q q) k0)<|tw_ q<|mw q<|hw q<|zw q (fun s => yl_b (y_eql s q q) l0)<|tw_ q<|mw q<|hw q<|zw q (fun s => yl_b (y_eql s q q) t0)<|tw_ q<|mw q<|gw q<|gw q<|gw q<|fw q<|mw q<|gw q<|gw q<|gw q<|gw q<|fw q<|mw q<|gw q<|gw q<|gw q<|gw q<|fw q<|aw q<|nw fun a s => ?_
        apply wp_ret
        obtain rfl := si hg
        exact fT f11 s q q q
       have l0 := decide_eq_false r0
       replace hg := br_f hg r0
       refine S s<|lw<|mw q<|yw q (fun s => yl_b (y_eql s q q) d0)<|mw q<|hw q fun a s => ?_
       refine gl s q (l_buildDense (sz := 1) s 1704 q q q u25 q q q q q q q fun D1 a w Q1 hK s => ?_)
       clear Q1
       replace s := s.add 207 (rdF Rep.str (cellsOfL [vT ([99]), vT ([98]), vT ([97])]) ([[99], [98], [97]])) (RdAll.cons (by exact ⟨q, lz⟩) (RdAll.cons (by exact ⟨q, lz⟩) (RdAll.cons (by exact ⟨q, lz⟩) (rN))))
       have hT := s
       replace hT := hT.fz (R := Rep.str) (kk := 1704) [1305, 1405] 208 q q (hT.ft 207 q) q
       refine gC s q func14 (c_r01_Same n _ _ hT.lt _ _ _ (hT.ft 138 q) [[99], [98], [97]] (some ⟨D1, 0, none⟩) (3) (hT.ft 208 q) _ g0) fun r5 a w hK hp s => ?_
       obtain rfl := hp.trans (congrArg Value.bool c0)
       refine S s<|tw_ q<|mw q<|hw q<|zw q (fun s => yl_b (y_eql s q q) h0)<|tw_ q<|mw q<|zw q (bF 0 · u38 q)<|zw q (lB 1305 · u9 q)<|zw q (fun s => yl_b (y_seq s q q) i0)<|tw_ q<|mw q<|zw q (bF 2 · u38 q)<|zw q (lB 1305 · u32 q)<|zw q (lS · q u32)<|zw q (fun s => yl_b (y_eqlN (i := ((a0.1.Types).length)) (j := 2) s q q) j0)<|tw_ q<|mw q<|zw q (bF 2 · u38 q)<|zw q (lB 1305 · u32 q) fun a s => ?_
       obtain ⟨i5, F2, Q2, a3, J4, w2, n2⟩ := SlR.elemX (s.ft 149 q) e0
       refine S s<|zw q (eL 3 0 · u32 F2 (lt_of_get e0) q)<|zw q (pF 0 · u49 q) fun a s => ?_
       obtain ⟨h4, x4, i4, y4, rfl, X4, l3, m3⟩ := RTypeDecl.open w2
       refine S s<|nsw 209 l3<|nsw 210 m3<|zw q (lP · Q2 a3 (n2 0 _ q) u9 q)<|zw q (fun s => yl_b (y_seq s q q) k0)<|tw_ q<|mw q<|hw q<|zw q (fun s => yl_b (y_eql s q q) l0)<|tw_ q<|mw q<|gw q<|gw q<|fw q<|mw q<|gw q<|gw q<|gw q<|fw q<|mw q<|gw q<|gw q<|gw q<|gw q<|fw q<|mw q<|gw q<|gw q<|gw q<|gw q<|fw q<|aw q<|nw fun a s => ?_
       apply wp_ret
       obtain rfl := si hg
       exact fT f11 s q q q
      have k0 := decide_eq_false q0
      replace hg := br_f hg q0
      refine S s<|lw<|mw q<|yw q (fun s => yl_b (y_eql s q q) d0)<|mw q<|hw q fun a s => ?_
      refine gl s q (l_buildDense (sz := 1) s 1704 q q q u25 q q q q q q q fun E1 a w R1 hK s => ?_)
      clear R1
      replace s := s.add 211 (rdF Rep.str (cellsOfL [vT ([99]), vT ([98]), vT ([97])]) ([[99], [98], [97]])) (RdAll.cons (by exact ⟨q, lz⟩) (RdAll.cons (by exact ⟨q, lz⟩) (RdAll.cons (by exact ⟨q, lz⟩) (rN))))
      have hT := s
      replace hT := hT.fz (R := Rep.str) (kk := 1704) [1305, 1405] 212 q q (hT.ft 211 q) q
      refine gC s q func14 (c_r01_Same n _ _ hT.lt _ _ _ (hT.ft 138 q) [[99], [98], [97]] (some ⟨E1, 0, none⟩) (3) (hT.ft 212 q) _ g0) fun s5 a w hK hp s => ?_
      obtain rfl := hp.trans (congrArg Value.bool c0)
      refine S s<|tw_ q<|mw q<|hw q<|zw q (fun s => yl_b (y_eql s q q) h0)<|tw_ q<|mw q<|zw q (bF 0 · u38 q)<|zw q (lB 1305 · u9 q)<|zw q (fun s => yl_b (y_seq s q q) i0)<|tw_ q<|mw q<|zw q (bF 2 · u38 q)<|zw q (lB 1305 · u32 q)<|zw q (lS · q u32)<|zw q (fun s => yl_b (y_eqlN (i := ((a0.1.Types).length)) (j := 2) s q q) j0)<|tw_ q<|mw q<|zw q (bF 2 · u38 q)<|zw q (lB 1305 · u32 q) fun a s => ?_
      obtain ⟨j5, G2, R2, b3, K4, x2, o2⟩ := SlR.elemX (s.ft 149 q) e0
      refine S s<|zw q (eL 3 0 · u32 G2 (lt_of_get e0) q)<|zw q (pF 0 · u49 q) fun a s => ?_
      obtain ⟨j4, z4, k4, B4, rfl, Y4, n3, o3⟩ := RTypeDecl.open x2
      refine S s<|nsw 213 n3<|nsw 214 o3<|zw q (lP · R2 b3 (o2 0 _ q) u9 q)<|zw q (fun s => yl_b (y_seq s q q) k0)<|tw_ q<|mw q<|gw q<|gw q<|fw q<|mw q<|gw q<|gw q<|fw q<|mw q<|gw q<|gw q<|gw q<|fw q<|mw q<|gw q<|gw q<|gw q<|gw q<|fw q<|mw q<|gw q<|gw q<|gw q<|gw q<|fw q<|aw q<|nw fun a s => ?_
      apply wp_ret
      obtain rfl := si hg
      exact fT f11 s q q q
     have j0 := decide_eq_false p0
     replace hg := br_f hg p0
     refine S s<|lw<|mw q<|yw q (fun s => yl_b (y_eql s q q) d0)<|mw q<|hw q fun a s => ?_
     refine gl s q (l_buildDense (sz := 1) s 1704 q q q u25 q q q q q q q fun F1 a w T1 hK s => ?_)
     clear T1
     replace s := s.add 215 (rdF Rep.str (cellsOfL [vT ([99]), vT ([98]), vT ([97])]) ([[99], [98], [97]])) (RdAll.cons (by exact ⟨q, lz⟩) (RdAll.cons (by exact ⟨q, lz⟩) (RdAll.cons (by exact ⟨q, lz⟩) (rN))))
     have hT := s
     replace hT := hT.fz (R := Rep.str) (kk := 1704) [1305, 1405] 216 q q (hT.ft 215 q) q
     refine gC s q func14 (c_r01_Same n _ _ hT.lt _ _ _ (hT.ft 138 q) [[99], [98], [97]] (some ⟨F1, 0, none⟩) (3) (hT.ft 216 q) _ g0) fun t5 a w hK hp s => ?_
     obtain rfl := hp.trans (congrArg Value.bool c0)
     refine S s<|tw_ q<|mw q<|hw q<|zw q (fun s => yl_b (y_eql s q q) h0)<|tw_ q<|mw q<|zw q (bF 0 · u38 q)<|zw q (lB 1305 · u9 q)<|zw q (fun s => yl_b (y_seq s q q) i0)<|tw_ q<|mw q<|zw q (bF 2 · u38 q)<|zw q (lB 1305 · u32 q)<|zw q (lS · q u32)<|zw q (fun s => yl_b (y_eqlN (i := ((a0.1.Types).length)) (j := 2) s q q) j0)<|tw_ q<|mw q<|gw q<|gw q<|gw q<|gw q<|gw q<|gw q<|fw q<|mw q<|gw q<|gw q<|fw q<|mw q<|gw q<|gw q<|fw q<|mw q<|gw q<|gw q<|gw q<|fw q<|mw q<|gw q<|gw q<|gw q<|gw q<|fw q<|mw q<|gw q<|gw q<|gw q<|gw q<|fw q<|aw q<|nw fun a s => ?_
     apply wp_ret
     obtain rfl := si hg
     exact fT f11 s q q q
    have i0 := decide_eq_false o0
    replace hg := br_f hg o0
    refine S s<|lw<|mw q<|yw q (fun s => yl_b (y_eql s q q) d0)<|mw q<|hw q fun a s => ?_
    refine gl s q (l_buildDense (sz := 1) s 1704 q q q u25 q q q q q q q fun G1 a w U1 hK s => ?_)
    clear U1
    replace s := s.add 217 (rdF Rep.str (cellsOfL [vT ([99]), vT ([98]), vT ([97])]) ([[99], [98], [97]])) (RdAll.cons (by exact ⟨q, lz⟩) (RdAll.cons (by exact ⟨q, lz⟩) (RdAll.cons (by exact ⟨q, lz⟩) (rN))))
    have hT := s
    replace hT := hT.fz (R := Rep.str) (kk := 1704) [1305, 1405] 218 q q (hT.ft 217 q) q
    refine gC s q func14 (c_r01_Same n _ _ hT.lt _ _ _ (hT.ft 138 q) [[99], [98], [97]] (some ⟨G1, 0, none⟩) (3) (hT.ft 218 q) _ g0) fun u5 a w hK hp s => ?_
    obtain rfl := hp.trans (congrArg Value.bool c0)
    refine S s<|tw_ q<|mw q<|hw q<|zw q (fun s => yl_b (y_eql s q q) h0)<|tw_ q<|mw q<|zw q (bF 0 · u38 q)<|zw q (lB 1305 · u9 q)<|zw q (fun s => yl_b (y_seq s q q) i0)<|tw_ q<|mw q<|gw q<|gw q<|gw q<|gw q<|fw q<|mw q<|gw q<|gw q<|gw q<|gw q<|gw q<|gw q<|fw q<|mw q<|gw q<|gw q<|fw q<|mw q<|gw q<|gw q<|fw q<|mw q<|gw q<|gw q<|gw q<|fw q<|mw q<|gw q<|gw q<|gw q<|gw q<|fw q<|mw q<|gw q<|gw q<|gw q<|gw q<|fw q<|aw q<|nw fun a s => ?_
    apply wp_ret
    obtain rfl := si hg
    exact fT f11 s q q q
   have h0 := decide_eq_false n0
   replace hg := br_f hg n0
   refine S s<|lw<|mw q<|yw q (fun s => yl_b (y_eql s q q) d0)<|mw q<|hw q fun a s => ?_
   refine gl s q (l_buildDense (sz := 1) s 1704 q q q u25 q q q q q q q fun H1 a w V1 hK s => ?_)
   clear V1
   replace s := s.add 219 (rdF Rep.str (cellsOfL [vT ([99]), vT ([98]), vT ([97])]) ([[99], [98], [97]])) (RdAll.cons (by exact ⟨q, lz⟩) (RdAll.cons (by exact ⟨q, lz⟩) (RdAll.cons (by exact ⟨q, lz⟩) (rN))))
   have hT := s
   replace hT := hT.fz (R := Rep.str) (kk := 1704) [1305, 1405] 220 q q (hT.ft 219 q) q
   refine gC s q func14 (c_r01_Same n _ _ hT.lt _ _ _ (hT.ft 138 q) [[99], [98], [97]] (some ⟨H1, 0, none⟩) (3) (hT.ft 220 q) _ g0) fun v5 a w hK hp s => ?_
   obtain rfl := hp.trans (congrArg Value.bool c0)
   refine S s<|tw_ q<|mw q<|hw q<|zw q (fun s => yl_b (y_eql s q q) h0)<|tw_ q<|mw q<|gw q<|gw q<|gw q<|fw q<|mw q<|gw q<|gw q<|gw q<|gw q<|fw q<|mw q<|gw q<|gw q<|gw q<|gw q<|gw q<|gw q<|fw q<|mw q<|gw q<|gw q<|fw q<|mw q<|gw q<|gw q<|fw q<|mw q<|gw q<|gw q<|gw q<|fw q<|mw q<|gw q<|gw q<|gw q<|gw q<|fw q<|mw q<|gw q<|gw q<|gw q<|gw q<|fw q<|aw q<|nw fun a s => ?_
   apply wp_ret
   obtain rfl := si hg
   exact fT f11 s q q q
  replace hg := br_n hg c0
  refine S s<|lw<|mw q<|yw q (fun s => yl_b (y_eql s q q) d0)<|mw q<|hw q fun a s => ?_
  refine gl s q (l_buildDense (sz := 1) s 1704 q q q u25 q q q q q q q fun I1 a w Y1 hK s => ?_)
  clear Y1
  replace s := s.add 221 (rdF Rep.str (cellsOfL [vT ([99]), vT ([98]), vT ([97])]) ([[99], [98], [97]])) (RdAll.cons (by exact ⟨q, lz⟩) (RdAll.cons (by exact ⟨q, lz⟩) (RdAll.cons (by exact ⟨q, lz⟩) (rN))))
  have hT := s
  replace hT := hT.fz (R := Rep.str) (kk := 1704) [1305, 1405] 222 q q (hT.ft 221 q) q
  refine gC s q func14 (c_r01_Same n _ _ hT.lt _ _ _ (hT.ft 138 q) [[99], [98], [97]] (some ⟨I1, 0, none⟩) (3) (hT.ft 222 q) _ g0) fun w5 a w hK hp s => ?_
  obtain rfl := hp.trans (congrArg Value.bool c0)
  refine S s<|tw_ q<|mw q<|gw q<|gw q<|fw q<|mw q<|gw q<|gw q<|gw q<|fw q<|mw q<|gw q<|gw q<|gw q<|gw q<|fw q<|mw q<|gw q<|gw q<|gw q<|gw q<|gw q<|gw q<|fw q<|mw q<|gw q<|gw q<|fw q<|mw q<|gw q<|gw q<|fw q<|mw q<|gw q<|gw q<|gw q<|fw q<|mw q<|gw q<|gw q<|gw q<|gw q<|fw q<|mw q<|gw q<|gw q<|gw q<|gw q<|fw q<|aw q<|nw fun a s => ?_
  apply wp_ret
  obtain rfl := si hg
  exact fT f11 s q q q
 have d0 := decide_eq_false m0
 replace hg := br_f hg m0
 refine S s<|lw<|mw q<|yw q (fun s => yl_b (y_eql s q q) d0)<|mw q<|gw q<|gw q<|gw q<|fw q<|mw q<|gw q<|gw q<|fw q<|mw q<|gw q<|gw q<|gw q<|fw q<|mw q<|gw q<|gw q<|gw q<|gw q<|fw q<|mw q<|gw q<|gw q<|gw q<|gw q<|gw q<|gw q<|fw q<|mw q<|gw q<|gw q<|fw q<|mw q<|gw q<|gw q<|fw q<|mw q<|gw q<|gw q<|gw q<|fw q<|mw q<|gw q<|gw q<|gw q<|gw q<|fw q<|mw q<|gw q<|gw q<|gw q<|gw q<|fw q<|aw q<|nw fun a s => ?_
 apply wp_ret
 obtain rfl := si hg
 exact fT f11 s q q q
end Go.Proofs.YtbhjplflnkidgaaGreat
