/- Chapter 22: a walk -/
import Derived.Test.YtbhjplflnkidgaaGreatAU
import Derived.Test.YtbhjplflnkidgaaGreatW3
namespace Go.Proofs.YtbhjplflnkidgaaGreat
open Go.Gl Go.RowKit Tryz
set_option linter.unusedVariables false
set_option linter.unusedSimpArgs false
set_option maxRecDepth 4000
set_option maxHeartbeats 20000000 in
theorem c_module_Link (n : Nat) (M : Bs) (w0 : World) (hM : bM M w0) (t_ : (List Module)) (R0 : OA) (U0 : Nat) (S3 : sR RModule M w0 R0 U0 t_) (t_' : (List UInt8)) (Q4 : (t_').length ≤ 9223372036854775807) (r : (Module × Int)) (hg : module_Link n t_ t_' = some r) :
    CA Tryz.prog 17 [sl R0 t_ U0, vT t_'] w0 (fun v w => ∃ (X1 : OA), ∃ (t2 : Nat), ∃ (Y1 : OA), ∃ (u2 : Nat), ∃ (Z1 : OA), ∃ (v2 : Nat), ∃ (a2 : OA), ∃ (w2 : Nat), ∃ (c2 : OA), ∃ (x2 : Nat), ∃ (d2 : OA), ∃ (y2 : Nat), ∃ (e2 : OA), ∃ (z2 : Nat), ∃ (g2 : OA), ∃ (B2 : Nat), ∃ (V1 : OA), ∃ (s2 : Nat), v = .tuple #[.agg #[vT r.1.Name, sl X1 r.1.Imports t2, sl Y1 r.1.Types u2, sl Z1 r.1.Templates v2, sl a2 r.1.Entries w2, sl c2 r.1.LexRules x2, sl d2 r.1.Rules y2, sl e2 r.1.Roots z2, sl g2 r.1.Checks B2, sl V1 r.1.Drops s2], .int .i64 (r.2)] ∧ ((r.1.Name).length ≤ 9223372036854775807) ∧ (SlR Rep.str M w X1 (r.1.Imports).length t2 (r.1.Imports)) ∧ (SlR RTypeDecl M w Y1 (r.1.Types).length u2 (r.1.Types)) ∧ (SlR RDef M w Z1 (r.1.Templates).length v2 (r.1.Templates)) ∧ (SlR REntryDecl M w a2 (r.1.Entries).length w2 (r.1.Entries)) ∧ (SlR RLexDecl M w c2 (r.1.LexRules).length x2 (r.1.LexRules)) ∧ (SlR RDef M w d2 (r.1.Rules).length y2 (r.1.Rules)) ∧ (SlR RDef M w e2 (r.1.Roots).length z2 (r.1.Roots)) ∧ (SlR (Rep.list Rep.str) M w g2 (r.1.Checks).length B2 (r.1.Checks)) ∧ (SlR Rep.str M w V1 (r.1.Drops).length s2 (r.1.Drops))) := by
 unfold module_Link at hg
 refine enter M noB func17 q q hM ?_
 intro a s
 replace s := s.es 101 S3
 apply wR
 refine l_seq q (l_alloc (zs := [vT ([]), nS, nS, nS, nS, nS, nS, nS, nS, nS]) s 1000 q q q q fun b2 a w hb hK s => ?_)
 obtain ⟨r3, Z3, hg⟩ := zB hg
 refine S s<|aw q<|nw<|sw<|lw<|mw q<|mw q fun a s => ?_
 refine lC s q func12 (c_module_Order n _ _ s.lt _ _ _ (s.ft 101 q) _ (by omega) _ Z3) fun v6 a w hK hp s => ?_
 obtain ⟨Z0, c1, rfl, w4⟩ := hp
 refine S s<|nsw 103 w4<|mw q<|yw q (y_extract · q q)<|yw q (y_extract · q q)<|aw q<|aw q<|nw<|sw<|vw<|mw q<|yw q (y_neq · q q)<|nw fun a s => c_dec s q (fun K1 => ?_) (fun K1 => ?_)
 ·replace hg := br_t hg K1
  refine S s<|vw<|yw q (y_build (parts := []) (ps := []) (cells := #[vT ([]), nS, nS, nS, nS, nS, nS, nS, nS, nS]) · q (by kernel_rfl))<|mw q fun a s => ?_
  refine l_seq q (l_store (n := 10) (cs' := [vT ([]), nS, nS, nS, nS, nS, nS, nS, nS, nS]) s 1000 q q q q q q q q ?_); clear s; intro w hK s; clear hK
  refine S s<|aw q<|nw fun a s => ?_
  apply wp_ret
  refine p_thenR ?_
  obtain rfl := si hg
  refine fin2 (fn := Tryz.f17) s q (r_cell (kk := 1000) (n := 10) (vs := [vT ([]), nS, nS, nS, nS, nS, nS, nS, nS, nS]) s q q u38 q q q q) (r_tmp s q) ?_
  exact ⟨(none), (0), (none), (0), (none), (0), (none), (0), (none), (0), (none), (0), (none), (0), (none), (0), (none), (0), q, lz, (SlR.nil_ _ _ _), (SlR.nil_ _ _ _), (SlR.nil_ _ _ _), (SlR.nil_ _ _ _), (SlR.nil_ _ _ _), (SlR.nil_ _ _ _), (SlR.nil_ _ _ _), (SlR.nil_ _ _ _), (SlR.nil_ _ _ _)⟩
 replace hg := br_f hg K1
 refine S s<|kw<|pw<|vw<|mw q<|yw q (y_build (parts := [(0, .tmp 28)]) (ps := [(0, vT (t_'))]) (cells := #[vT (t_'), nS, nS, nS, nS, nS, nS, nS, nS, nS]) · q (by kernel_rfl)) fun a s => ?_
 refine l_seq q (l_alloc (zs := [vT ([]), nS, nS, nS, nS, nS, nS, nS, nS, nS]) s 1402 q q q q fun t0 a w hb hK s => ?_)
 refine l_seq q (l_store (n := 10) (cs' := [vT (t_'), nS, nS, nS, nS, nS, nS, nS, nS, nS]) s 1402 q q q q q q q q ?_); clear s; intro w hK s; clear hK
 refine S s<|nw<|sw<|vw<|mw q<|yw q (lS · q u25)<|mw q<|nw fun a s => ?_
 obtain ⟨Y2, hg, D3⟩ := zJ hg
 refine c_post (fun a w => ∃ (n0 : (List TypeDecl)) (l0 : (List Def)) (j0 : (List EntryDecl)) (h0 : (List LexDecl)) (e0 : (List Def)) (d0 : (List Def)) (c0 : (List (List (List UInt8)))), ∃ (b0 : (List (List UInt8))) (A13 : OA) (r0 : Nat) (X0 : List Value) (A17 : OA) (q0 : Nat) (Q0 : List Value) (A21 : OA) (p0 : Nat) (L0 : List Value) (A25 : OA) (o0 : Nat) (J0 : List Value) (A29 : OA) (m0 : Nat) (H0 : List Value) (A33 : OA) (k0 : Nat) (G0 : List Value) (A37 : OA) (i0 : Nat) (F0 : List Value) (A41 : OA) (g0 : Nat) (E0 : List Value), Y2 n0 l0 j0 h0 e0 d0 c0 b0 = some r ∧ St (cx f17 M w0) [(0, sl R0 t_ U0), (4, vP b2 0), (6, sl Z0 r3.1 c1), (8, vP t0 0)] [(1000, Ob.box b2 [vT ([]), nS, nS, nS, nS, nS, nS, nS, nS, nS] 38), (1402, Ob.box t0 [vT (t_'), nS, sl A13 n0 r0, sl A17 l0 q0, sl A21 j0 p0, sl A25 h0 o0, sl A29 e0 m0, sl A33 d0 k0, sl A37 c0 i0, sl A41 b0 g0] 38), (700104, Ob.row (A13) ((n0).length) (r0) 49 3 (X0)), (700106, Ob.row (A17) ((l0).length) (q0) 62 6 (Q0)), (700108, Ob.row (A21) ((j0).length) (p0) 89 7 (L0)), (700110, Ob.row (A25) ((h0).length) (o0) 94 8 (J0)), (700112, Ob.row (A29) ((e0).length) (m0) 62 6 (H0)), (700114, Ob.row (A33) ((d0).length) (k0) 62 6 (G0)), (700116, Ob.row (A37) ((c0).length) (i0) 25 1 (F0)), (700118, Ob.row (A41) ((b0).length) (g0) 9 1 (E0))] [(101, sF RModule R0 U0 t_), (103, sF Rep.str Z0 c1 r3.1), (105, rdF RTypeDecl (X0) (n0)), (107, rdF RDef (Q0) (l0)), (109, rdF REntryDecl (L0) (j0)), (111, rdF RLexDecl (J0) (h0)), (113, rdF RDef (H0) (e0)), (115, rdF RDef (G0) (d0)), (117, rdF (Rep.list Rep.str) (F0) (c0)), (119, rdF Rep.str (E0) (b0))] a w) ?_ ?_
 ·apply wp_block
  replace s := s.nilRow 700120 49 3 q
  replace s := s.add 121 (rdF RTypeDecl [] []) (rN)
  replace s := s.nilRow 700122 62 6 q
  replace s := s.add 123 (rdF RDef [] []) (rN)
  replace s := s.nilRow 700124 89 7 q
  replace s := s.add 125 (rdF REntryDecl [] []) (rN)
  replace s := s.nilRow 700126 94 8 q
  replace s := s.add 127 (rdF RLexDecl [] []) (rN)
  replace s := s.nilRow 700128 62 6 q
  replace s := s.add 129 (rdF RDef [] []) (rN)
  replace s := s.nilRow 700130 62 6 q
  replace s := s.add 131 (rdF RDef [] []) (rN)
  replace s := s.nilRow 700132 25 1 q
  replace s := s.add 133 (rdF (Rep.list Rep.str) [] []) (rN)
  replace s := s.nilRow 700134 9 1 q
  replace s := s.add 135 (rdF Rep.str [] []) (rN)
  refine c_loop (σ := Nat) (fun m1 a w => ∃ (e1 : Nat) (u0 : (List TypeDecl)) (v0 : (List Def)) (x0 : (List EntryDecl)) (y0 : (List LexDecl)) (z0 : (List Def)) (B0 : (List Def)) (C0 : (List (List (List UInt8)))), ∃ (D0 : (List (List UInt8))) (A46 : OA) (y1 : Nat) (j1 : List Value) (A50 : OA) (t1 : Nat) (k1 : List Value) (A54 : OA) (h1 : Nat) (l1 : List Value) (A58 : OA) (a1 : Nat) (n1 : List Value) (A62 : OA) (T0 : Nat) (o1 : List Value) (A66 : OA) (O0 : Nat) (p1 : List Value) (A70 : OA) (K0 : Nat) (q1 : List Value) (A74 : OA) (I0 : Nat) (r1 : List Value), module_Link_L0 n t_ r3 Y2 m1 e1 u0 v0 x0 y0 z0 B0 C0 D0 = some r ∧ St (cx f17 M w0) [(0, sl R0 t_ U0), (4, vP b2 0), (6, sl Z0 r3.1 c1), (8, vP t0 0), (30, sl Z0 r3.1 c1), (31, vI ((((r3.1).length : Nat) : Int))), (32, vI (((e1 : Nat) : Int)))] [(1000, Ob.box b2 [vT ([]), nS, nS, nS, nS, nS, nS, nS, nS, nS] 38), (1402, Ob.box t0 [vT (t_'), nS, sl A46 u0 y1, sl A50 v0 t1, sl A54 x0 h1, sl A58 y0 a1, sl A62 z0 T0, sl A66 B0 O0, sl A70 C0 K0, sl A74 D0 I0] 38), (700120, Ob.row (A46) ((u0).length) (y1) 49 3 (j1)), (700122, Ob.row (A50) ((v0).length) (t1) 62 6 (k1)), (700124, Ob.row (A54) ((x0).length) (h1) 89 7 (l1)), (700126, Ob.row (A58) ((y0).length) (a1) 94 8 (n1)), (700128, Ob.row (A62) ((z0).length) (T0) 62 6 (o1)), (700130, Ob.row (A66) ((B0).length) (O0) 62 6 (p1)), (700132, Ob.row (A70) ((C0).length) (K0) 25 1 (q1)), (700134, Ob.row (A74) ((D0).length) (I0) 9 1 (r1))] [(101, sF RModule R0 U0 t_), (103, sF Rep.str Z0 c1 r3.1), (121, rdF RTypeDecl (j1) (u0)), (123, rdF RDef (k1) (v0)), (125, rdF REntryDecl (l1) (x0)), (127, rdF RLexDecl (n1) (y0)), (129, rdF RDef (o1) (z0)), (131, rdF RDef (p1) (B0)), (133, rdF (Rep.list Rep.str) (q1) (C0)), (135, rdF Rep.str (r1) (D0))] a w) (fun m1 => m1) n ⟨(0), ([]), ([]), ([]), ([]), ([]), ([]), ([]), ([]), (none), (0), ([]), (none), (0), ([]), (none), (0), ([]), (none), (0), ([]), (none), (0), ([]), (none), (0), ([]), (none), (0), ([]), (none), (0), ([]), hg, (s.sb q q q)⟩ ?_
  clear s a; rintro m1 a w ⟨e1, u0, v0, x0, y0, z0, B0, C0, D0, A46, y1, j1, A50, t1, k1, A54, h1, l1, A58, a1, n1, A62, T0, o1, A66, O0, p1, A70, K0, q1, A74, I0, r1, hg, s⟩
  rcases m1 with _ | m1
  ·rw [module_Link_L0] at hg; cases hg
  rw [module_Link_L0] at hg
  refine S s<|vw<|yw q (y_lssN (i := e1) (j := ((r3.1).length)) · q q)<|nw<|sw fun a s => c_dec s q (fun J1 => ?_) (fun J1 => ?_)
  ·replace hg := br_t hg J1
   have P4 := SlR.mx (s.ft 103 q)
   obtain ⟨h5, X2, hg⟩ := zB hg
   refine S s<|kw<|pw<|sw<|bw<|sw<|lw fun a s => ?_
   obtain ⟨X4, C3, G3, I3, L4, z3, x3⟩ := SlR.elemX (s.ft 103 q) X2
   refine qq s q (eL 1 e1 s u25 C3 (lt_of_get X2) q) fun a s => ?_
   obtain ⟨rfl, S4⟩ := z3
   obtain ⟨a0, a4, hg⟩ := zB hg
   refine S s<|yw q (lP · G3 I3 (x3 0 _ q) u9 q)<|aw q<|nw<|sw<|lw<|mw q<|mw q fun a s => ?_
   refine lC s q func27 (c_module_find n _ _ s.lt _ _ _ (s.ft 101 q) _ (by omega) _ a4) fun e5 a w hK hp s => ?_
   obtain ⟨b3, m3, c3, n3, d3, o3, e3, p3, g3, q3, h3, s3, i3, t3, j3, v3, a3, l3, rfl, U4, y4, z4, B4, C4, D4, E4, F4, G4, x4⟩ := hp
   refine S s<|nsw 145 y4<|nsw 146 z4<|nsw 147 B4<|nsw 148 C4<|nsw 149 D4<|nsw 150 E4<|nsw 151 F4<|nsw 152 G4<|nsw 153 x4<|mw q<|yw q (y_extract · q q)<|yw q (y_extract · q q) fun a s => ?_
   refine l_seq q (l_alloc (zs := [vT ([]), nS, nS, nS, nS, nS, nS, nS, nS, nS]) s 1806 q q q q fun J4 a w hb hK s => ?_)
   refine l_seq q (l_store (n := 10) (cs' := [vT a0.1.Name, sl b3 a0.1.Imports m3, sl c3 a0.1.Types n3, sl d3 a0.1.Templates o3, sl e3 a0.1.Entries p3, sl g3 a0.1.LexRules q3, sl h3 a0.1.Rules s3, sl i3 a0.1.Roots t3, sl j3 a0.1.Checks v3, sl a3 a0.1.Drops l3]) s 1806 q q q q q q q q ?_); clear s; intro w hK s; clear hK
   obtain ⟨T2, hg⟩ := zC hg
   refine S s<|aw q<|nw<|sw<|lw<|yw q (bF 2 · u38 q)<|yw q (lB 1402 · u32 q)<|yw q (bF 2 · u38 q)<|yw q (lB 1806 · u32 q) fun a s => ?_
   obtain ⟨U1, j4, R3⟩ := SlR.src (s.ft 146 q)
   replace s := s.add 156 (rdF RTypeDecl U1 (a0.1.Types)) R3
   refine l_seq q (l_append (sz := 3) (by_ := 64) (N := (u0 ++ a0.1.Types).length) s 700120 q q q u32 q q q q q j4 (by rw [List.length_append]; try rfl) q (rmA T2 q) (rmB T2) q fun M0 P0 a w hA hK s => ?_)
   replace s := s.add 157 (rdF RTypeDecl (j1 ++ U1) (u0 ++ a0.1.Types)) (RdAll.append (s.ft 121 q) (s.ft 156 q))
   refine qq s q (bF 2 s u38 q) fun a s => ?_
   refine l_seq q (l_store (n := 1) (cs' := [vT (t_'), nS, sl M0 (u0 ++ a0.1.Types) P0, sl A50 v0 t1, sl A54 x0 h1, sl A58 y0 a1, sl A62 z0 T0, sl A66 B0 O0, sl A70 C0 K0, sl A74 D0 I0]) s 1402 q q q q q q q q ?_); clear s; intro w hK s; clear hK
   obtain ⟨U2, hg⟩ := zC hg
   refine S s<|nw<|sw<|lw<|yw q (bF 3 · u38 q)<|yw q (lB 1402 · u33 q)<|yw q (bF 3 · u38 q)<|yw q (lB 1806 · u33 q) fun a s => ?_
   obtain ⟨L1, b4, J3⟩ := SlR.src (s.ft 147 q)
   replace s := s.add 160 (rdF RDef L1 (a0.1.Templates)) J3
   refine l_seq q (l_append (sz := 6) (by_ := 112) (N := (v0 ++ a0.1.Templates).length) s 700122 q q q u33 q q q q q b4 (by rw [List.length_append]; try rfl) q (rmA U2 q) (rmB U2) q fun S0 V0 a w hA hK s => ?_)
   replace s := s.add 161 (rdF RDef (k1 ++ L1) (v0 ++ a0.1.Templates)) (RdAll.append (s.ft 123 q) (s.ft 160 q))
   refine qq s q (bF 3 s u38 q) fun a s => ?_
   refine l_seq q (l_store (n := 1) (cs' := [vT (t_'), nS, sl M0 (u0 ++ a0.1.Types) P0, sl S0 (v0 ++ a0.1.Templates) V0, sl A54 x0 h1, sl A58 y0 a1, sl A62 z0 T0, sl A66 B0 O0, sl A70 C0 K0, sl A74 D0 I0]) s 1402 q q q q q q q q ?_); clear s; intro w hK s; clear hK
   obtain ⟨M2, hg⟩ := zC hg
   refine S s<|nw<|sw<|lw<|yw q (bF 4 · u38 q)<|yw q (lB 1402 · u34 q)<|yw q (bF 4 · u38 q)<|yw q (lB 1806 · u34 q) fun a s => ?_
   obtain ⟨O1, c4, K3⟩ := SlR.src (s.ft 148 q)
   replace s := s.add 164 (rdF REntryDecl O1 (a0.1.Entries)) K3
   refine l_seq q (l_append (sz := 7) (by_ := 136) (N := (x0 ++ a0.1.Entries).length) s 700124 q q q u34 q q q q q c4 (by rw [List.length_append]; try rfl) q (rmA M2 q) (rmB M2) q fun Y0 b1 a w hA hK s => ?_)
   replace s := s.add 165 (rdF REntryDecl (l1 ++ O1) (x0 ++ a0.1.Entries)) (RdAll.append (s.ft 125 q) (s.ft 164 q))
   refine qq s q (bF 4 s u38 q) fun a s => ?_
   refine l_seq q (l_store (n := 1) (cs' := [vT (t_'), nS, sl M0 (u0 ++ a0.1.Types) P0, sl S0 (v0 ++ a0.1.Templates) V0, sl Y0 (x0 ++ a0.1.Entries) b1, sl A58 y0 a1, sl A62 z0 T0, sl A66 B0 O0, sl A70 C0 K0, sl A74 D0 I0]) s 1402 q q q q q q q q ?_); clear s; intro w hK s; clear hK
   obtain ⟨O2, hg⟩ := zC hg
   refine S s<|nw<|sw<|lw<|yw q (bF 5 · u38 q)<|yw q (lB 1402 · u35 q)<|yw q (bF 5 · u38 q)<|yw q (lB 1806 · u35 q) fun a s => ?_
   obtain ⟨P1, d4, L3⟩ := SlR.src (s.ft 149 q)
   replace s := s.add 168 (rdF RLexDecl P1 (a0.1.LexRules)) L3
   refine l_seq q (l_append (sz := 8) (by_ := 144) (N := (y0 ++ a0.1.LexRules).length) s 700126 q q q u35 q q q q q d4 (by rw [List.length_append]; try rfl) q (rmA O2 q) (rmB O2) q fun g1 i1 a w hA hK s => ?_)
   replace s := s.add 169 (rdF RLexDecl (n1 ++ P1) (y0 ++ a0.1.LexRules)) (RdAll.append (s.ft 127 q) (s.ft 168 q))
   refine qq s q (bF 5 s u38 q) fun a s => ?_
   refine l_seq q (l_store (n := 1) (cs' := [vT (t_'), nS, sl M0 (u0 ++ a0.1.Types) P0, sl S0 (v0 ++ a0.1.Templates) V0, sl Y0 (x0 ++ a0.1.Entries) b1, sl g1 (y0 ++ a0.1.LexRules) i1, sl A62 z0 T0, sl A66 B0 O0, sl A70 C0 K0, sl A74 D0 I0]) s 1402 q q q q q q q q ?_); clear s; intro w hK s; clear hK
   obtain ⟨P2, hg⟩ := zC hg
   refine S s<|nw<|sw<|lw<|yw q (bF 6 · u38 q)<|yw q (lB 1402 · u33 q)<|yw q (bF 6 · u38 q)<|yw q (lB 1806 · u33 q) fun a s => ?_
   obtain ⟨Q1, e4, M3⟩ := SlR.src (s.ft 150 q)
   replace s := s.add 172 (rdF RDef Q1 (a0.1.Rules)) M3
   refine l_seq q (l_append (sz := 6) (by_ := 112) (N := (z0 ++ a0.1.Rules).length) s 700128 q q q u33 q q q q q e4 (by rw [List.length_append]; try rfl) q (rmA P2 q) (rmB P2) q fun s1 u1 a w hA hK s => ?_)
   replace s := s.add 173 (rdF RDef (o1 ++ Q1) (z0 ++ a0.1.Rules)) (RdAll.append (s.ft 129 q) (s.ft 172 q))
   refine qq s q (bF 6 s u38 q) fun a s => ?_
   refine l_seq q (l_store (n := 1) (cs' := [vT (t_'), nS, sl M0 (u0 ++ a0.1.Types) P0, sl S0 (v0 ++ a0.1.Templates) V0, sl Y0 (x0 ++ a0.1.Entries) b1, sl g1 (y0 ++ a0.1.LexRules) i1, sl s1 (z0 ++ a0.1.Rules) u1, sl A66 B0 O0, sl A70 C0 K0, sl A74 D0 I0]) s 1402 q q q q q q q q ?_); clear s; intro w hK s; clear hK
   obtain ⟨Q2, hg⟩ := zC hg
   refine S s<|nw<|sw<|lw<|yw q (bF 7 · u38 q)<|yw q (lB 1402 · u33 q)<|yw q (bF 7 · u38 q)<|yw q (lB 1806 · u33 q) fun a s => ?_
   obtain ⟨R1, g4, O3⟩ := SlR.src (s.ft 151 q)
   replace s := s.add 176 (rdF RDef R1 (a0.1.Roots)) O3
   refine l_seq q (l_append (sz := 6) (by_ := 112) (N := (B0 ++ a0.1.Roots).length) s 700130 q q q u33 q q q q q g4 (by rw [List.length_append]; try rfl) q (rmA Q2 q) (rmB Q2) q fun v1 z1 a w hA hK s => ?_)
   replace s := s.add 177 (rdF RDef (p1 ++ R1) (B0 ++ a0.1.Roots)) (RdAll.append (s.ft 131 q) (s.ft 176 q))
   refine qq s q (bF 7 s u38 q) fun a s => ?_
   refine l_seq q (l_store (n := 1) (cs' := [vT (t_'), nS, sl M0 (u0 ++ a0.1.Types) P0, sl S0 (v0 ++ a0.1.Templates) V0, sl Y0 (x0 ++ a0.1.Entries) b1, sl g1 (y0 ++ a0.1.LexRules) i1, sl s1 (z0 ++ a0.1.Rules) u1, sl v1 (B0 ++ a0.1.Roots) z1, sl A70 C0 K0, sl A74 D0 I0]) s 1402 q q q q q q q q ?_); clear s; intro w hK s; clear hK
   obtain ⟨R2, hg⟩ := zC hg
   refine S s<|nw<|sw<|lw<|yw q (bF 8 · u38 q)<|yw q (lB 1402 · u36 q)<|yw q (bF 8 · u38 q)<|yw q (lB 1806 · u36 q) fun a s => ?_
   obtain ⟨S1, h4, P3⟩ := SlR.src (s.ft 152 q)
   replace s := s.add 180 (rdF (Rep.list Rep.str) S1 (a0.1.Checks)) P3
   refine l_seq q (l_append (sz := 1) (by_ := 24) (N := (C0 ++ a0.1.Checks).length) s 700132 q q q u36 q q q q q h4 (by rw [List.length_append]; try rfl) q (rmA R2 q) (rmB R2) q fun D1 F1 a w hA hK s => ?_)
   replace s := s.add 181 (rdF (Rep.list Rep.str) (q1 ++ S1) (C0 ++ a0.1.Checks)) (RdAll.append (s.ft 133 q) (s.ft 180 q))
   refine qq s q (bF 8 s u38 q) fun a s => ?_
   refine l_seq q (l_store (n := 1) (cs' := [vT (t_'), nS, sl M0 (u0 ++ a0.1.Types) P0, sl S0 (v0 ++ a0.1.Templates) V0, sl Y0 (x0 ++ a0.1.Entries) b1, sl g1 (y0 ++ a0.1.LexRules) i1, sl s1 (z0 ++ a0.1.Rules) u1, sl v1 (B0 ++ a0.1.Roots) z1, sl D1 (C0 ++ a0.1.Checks) F1, sl A74 D0 I0]) s 1402 q q q q q q q q ?_); clear s; intro w hK s; clear hK
   obtain ⟨S2, hg⟩ := zC hg
   refine S s<|nw<|lw<|yw q (bF 9 · u38 q)<|yw q (lB 1402 · u25 q)<|yw q (bF 9 · u38 q)<|yw q (lB 1806 · u25 q) fun a s => ?_
   obtain ⟨T1, i4, Q3⟩ := SlR.src (s.ft 153 q)
   replace s := s.add 184 (rdF Rep.str T1 (a0.1.Drops)) Q3
   refine l_seq q (l_append (sz := 1) (by_ := 16) (N := (D0 ++ a0.1.Drops).length) s 700134 q q q u25 q q q q q i4 (by rw [List.length_append]; try rfl) q (rmA S2 q) (rmB S2) q fun h2 C2 a w hA hK s => ?_)
   replace s := s.add 185 (rdF Rep.str (r1 ++ T1) (D0 ++ a0.1.Drops)) (RdAll.append (s.ft 135 q) (s.ft 184 q))
   refine qq s q (bF 9 s u38 q) fun a s => ?_
   refine l_seq q (l_store (n := 1) (cs' := [vT (t_'), nS, sl M0 (u0 ++ a0.1.Types) P0, sl S0 (v0 ++ a0.1.Templates) V0, sl Y0 (x0 ++ a0.1.Entries) b1, sl g1 (y0 ++ a0.1.LexRules) i1, sl s1 (z0 ++ a0.1.Rules) u1, sl v1 (B0 ++ a0.1.Roots) z1, sl D1 (C0 ++ a0.1.Checks) F1, sl h2 (D0 ++ a0.1.Drops) C2]) s 1402 q q q q q q q q ?_); clear s; intro w hK s; clear hK
   apply wO
   refine p_inN ?_
   refine S s<|pw<|lw<|yw q (y_addN (i := e1) (j := 1) · q q (in64.2 (by omega)))<|mw q<|nw<|alw 121 157 q<|alw 123 161 q<|alw 125 165 q<|alw 127 169 q<|alw 129 173 q<|alw 131 177 q<|alw 133 181 q<|alw 135 185 q fun a s => ?_
   exact ⟨m1, Nat.lt_succ_self _, ⟨(e1 + 1), (u0 ++ a0.1.Types), (v0 ++ a0.1.Templates), (x0 ++ a0.1.Entries), (y0 ++ a0.1.LexRules), (z0 ++ a0.1.Rules), (B0 ++ a0.1.Roots), (C0 ++ a0.1.Checks), (D0 ++ a0.1.Drops), (M0), (P0), (j1 ++ U1), (S0), (V0), (k1 ++ L1), (Y0), (b1), (l1 ++ O1), (g1), (i1), (n1 ++ P1), (s1), (u1), (o1 ++ Q1), (v1), (z1), (p1 ++ R1), (D1), (F1), (q1 ++ S1), (h2), (C2), (r1 ++ T1), hg, (s.sb q q q)⟩⟩
  replace hg := br_f hg J1
  apply wp_exit
  refine p_then ?_
  refine p_then ?_
  refine p_in ?_
  refine S s<|pw<|alw 105 121 q<|alw 107 123 q<|alw 109 125 q<|alw 111 127 q<|alw 113 129 q<|alw 115 131 q<|alw 117 133 q<|alw 119 135 q fun a s => ?_
  replace s := s.pk [(1000, 1000), (1402, 1402), (700104, 700120), (700106, 700122), (700108, 700124), (700110, 700126), (700112, 700128), (700114, 700130), (700116, 700132), (700118, 700134)] (by decide)
  exact ⟨(u0), (v0), (x0), (y0), (z0), (B0), (C0), (D0), (A46), (y1), (j1), (A50), (t1), (k1), (A54), (h1), (l1), (A58), (a1), (n1), (A62), (T0), (o1), (A66), (O0), (p1), (A70), (K0), (q1), (A74), (I0), (r1), hg, (s.sb q q q)⟩
 clear s a; rintro a w ⟨n0, l0, j0, h0, e0, d0, c0, b0, A13, r0, X0, A17, q0, Q0, A21, p0, L0, A25, o0, J0, A29, m0, H0, A33, k0, G0, A37, i0, F0, A41, g0, E0, hg, s⟩
 subst D3
 obtain ⟨Y4, T3, hg⟩ := zB hg
 refine S s<|sw<|sw<|lw<|yw q (y_loadAll (kk := 1402) · q q u38 q q) fun a s => ?_
 have hT := s
 replace hT := hT.freeze (R := RTypeDecl) (kk := 700104) (L' := [(1000, Ob.box b2 [vT ([]), nS, nS, nS, nS, nS, nS, nS, nS, nS] 38), (1402, Ob.box t0 [vT (t_'), nS, sl A13 n0 r0, sl A17 l0 q0, sl A21 j0 p0, sl A25 h0 o0, sl A29 e0 m0, sl A33 d0 k0, sl A37 c0 i0, sl A41 b0 g0] 38), (700106, Ob.row (A17) ((l0).length) (q0) 62 6 (Q0)), (700108, Ob.row (A21) ((j0).length) (p0) 89 7 (L0)), (700110, Ob.row (A25) ((h0).length) (o0) 94 8 (J0)), (700112, Ob.row (A29) ((e0).length) (m0) 62 6 (H0)), (700114, Ob.row (A33) ((d0).length) (k0) 62 6 (G0)), (700116, Ob.row (A37) ((c0).length) (i0) 25 1 (F0)), (700118, Ob.row (A41) ((b0).length) (g0) 9 1 (E0))]) 194 q q (hT.ft 105 q) ⟨q, q, q, q, q, q, q, q, q, trivial⟩ q
 replace hT := hT.freeze (R := RDef) (kk := 700106) (L' := [(1000, Ob.box b2 [vT ([]), nS, nS, nS, nS, nS, nS, nS, nS, nS] 38), (1402, Ob.box t0 [vT (t_'), nS, sl A13 n0 r0, sl A17 l0 q0, sl A21 j0 p0, sl A25 h0 o0, sl A29 e0 m0, sl A33 d0 k0, sl A37 c0 i0, sl A41 b0 g0] 38), (700108, Ob.row (A21) ((j0).length) (p0) 89 7 (L0)), (700110, Ob.row (A25) ((h0).length) (o0) 94 8 (J0)), (700112, Ob.row (A29) ((e0).length) (m0) 62 6 (H0)), (700114, Ob.row (A33) ((d0).length) (k0) 62 6 (G0)), (700116, Ob.row (A37) ((c0).length) (i0) 25 1 (F0)), (700118, Ob.row (A41) ((b0).length) (g0) 9 1 (E0))]) 195 q q (hT.ft 107 q) ⟨q, q, q, q, q, q, q, q, trivial⟩ q
 replace hT := hT.freeze (R := REntryDecl) (kk := 700108) (L' := [(1000, Ob.box b2 [vT ([]), nS, nS, nS, nS, nS, nS, nS, nS, nS] 38), (1402, Ob.box t0 [vT (t_'), nS, sl A13 n0 r0, sl A17 l0 q0, sl A21 j0 p0, sl A25 h0 o0, sl A29 e0 m0, sl A33 d0 k0, sl A37 c0 i0, sl A41 b0 g0] 38), (700110, Ob.row (A25) ((h0).length) (o0) 94 8 (J0)), (700112, Ob.row (A29) ((e0).length) (m0) 62 6 (H0)), (700114, Ob.row (A33) ((d0).length) (k0) 62 6 (G0)), (700116, Ob.row (A37) ((c0).length) (i0) 25 1 (F0)), (700118, Ob.row (A41) ((b0).length) (g0) 9 1 (E0))]) 196 q q (hT.ft 109 q) ⟨q, q, q, q, q, q, q, trivial⟩ q
 replace hT := hT.freeze (R := RLexDecl) (kk := 700110) (L' := [(1000, Ob.box b2 [vT ([]), nS, nS, nS, nS, nS, nS, nS, nS, nS] 38), (1402, Ob.box t0 [vT (t_'), nS, sl A13 n0 r0, sl A17 l0 q0, sl A21 j0 p0, sl A25 h0 o0, sl A29 e0 m0, sl A33 d0 k0, sl A37 c0 i0, sl A41 b0 g0] 38), (700112, Ob.row (A29) ((e0).length) (m0) 62 6 (H0)), (700114, Ob.row (A33) ((d0).length) (k0) 62 6 (G0)), (700116, Ob.row (A37) ((c0).length) (i0) 25 1 (F0)), (700118, Ob.row (A41) ((b0).length) (g0) 9 1 (E0))]) 197 q q (hT.ft 111 q) ⟨q, q, q, q, q, q, trivial⟩ q
 replace hT := hT.freeze (R := RDef) (kk := 700112) (L' := [(1000, Ob.box b2 [vT ([]), nS, nS, nS, nS, nS, nS, nS, nS, nS] 38), (1402, Ob.box t0 [vT (t_'), nS, sl A13 n0 r0, sl A17 l0 q0, sl A21 j0 p0, sl A25 h0 o0, sl A29 e0 m0, sl A33 d0 k0, sl A37 c0 i0, sl A41 b0 g0] 38), (700114, Ob.row (A33) ((d0).length) (k0) 62 6 (G0)), (700116, Ob.row (A37) ((c0).length) (i0) 25 1 (F0)), (700118, Ob.row (A41) ((b0).length) (g0) 9 1 (E0))]) 198 q q (hT.ft 113 q) ⟨q, q, q, q, q, trivial⟩ q
 replace hT := hT.freeze (R := RDef) (kk := 700114) (L' := [(1000, Ob.box b2 [vT ([]), nS, nS, nS, nS, nS, nS, nS, nS, nS] 38), (1402, Ob.box t0 [vT (t_'), nS, sl A13 n0 r0, sl A17 l0 q0, sl A21 j0 p0, sl A25 h0 o0, sl A29 e0 m0, sl A33 d0 k0, sl A37 c0 i0, sl A41 b0 g0] 38), (700116, Ob.row (A37) ((c0).length) (i0) 25 1 (F0)), (700118, Ob.row (A41) ((b0).length) (g0) 9 1 (E0))]) 199 q q (hT.ft 115 q) ⟨q, q, q, q, trivial⟩ q
 replace hT := hT.freeze (R := (Rep.list Rep.str)) (kk := 700116) (L' := [(1000, Ob.box b2 [vT ([]), nS, nS, nS, nS, nS, nS, nS, nS, nS] 38), (1402, Ob.box t0 [vT (t_'), nS, sl A13 n0 r0, sl A17 l0 q0, sl A21 j0 p0, sl A25 h0 o0, sl A29 e0 m0, sl A33 d0 k0, sl A37 c0 i0, sl A41 b0 g0] 38), (700118, Ob.row (A41) ((b0).length) (g0) 9 1 (E0))]) 200 q q (hT.ft 117 q) ⟨q, q, q, trivial⟩ q
 replace hT := hT.freeze (R := Rep.str) (kk := 700118) (L' := [(1000, Ob.box b2 [vT ([]), nS, nS, nS, nS, nS, nS, nS, nS, nS] 38), (1402, Ob.box t0 [vT (t_'), nS, sl A13 n0 r0, sl A17 l0 q0, sl A21 j0 p0, sl A25 h0 o0, sl A29 e0 m0, sl A33 d0 k0, sl A37 c0 i0, sl A41 b0 g0] 38)]) 201 q q (hT.ft 119 q) ⟨q, q, trivial⟩ q
 refine lV s q func36 (c_module_repeats n _ _ hT.lt (Module.mk t_' [] n0 l0 j0 h0 e0 d0 c0 b0) (none) (0) (A13) (r0) (A17) (q0) (A21) (p0) (A25) (o0) (A29) (m0) (A33) (k0) (A37) (i0) (A41) (g0) (by omega) (SlR.nil_ _ _ _) (hT.ft 194 q) (hT.ft 195 q) (hT.ft 196 q) (hT.ft 197 q) (hT.ft 198 q) (hT.ft 199 q) (hT.ft 200 q) (hT.ft 201 q) _ T3) fun a w hK s => ?_
 apply wN
 refine c_cond s q (fun G1 => ?_) (fun G1 => ?_)
 ·replace hg := br_t hg G1
  apply wR
  refine qq s q (y_build (parts := []) (ps := []) (cells := #[vT ([]), nS, nS, nS, nS, nS, nS, nS, nS, nS]) s q (by kernel_rfl)) fun a s => ?_
  refine l_seq q (l_store (n := 10) (cs' := [vT ([]), nS, nS, nS, nS, nS, nS, nS, nS, nS]) s 1000 q q q q q q q q ?_); clear s; intro w hK s; clear hK
  refine S s<|aw q<|nw fun a s => ?_
  apply wp_ret
  refine p_thenR ?_
  obtain rfl := si hg
  refine fin2 (fn := Tryz.f17) s q (r_cell (kk := 1000) (n := 10) (vs := [vT ([]), nS, nS, nS, nS, nS, nS, nS, nS, nS]) s q q u38 q q q q) (r_tmp s q) ?_
  exact ⟨(none), (0), (none), (0), (none), (0), (none), (0), (none), (0), (none), (0), (none), (0), (none), (0), (none), (0), q, lz, (SlR.nil_ _ _ _), (SlR.nil_ _ _ _), (SlR.nil_ _ _ _), (SlR.nil_ _ _ _), (SlR.nil_ _ _ _), (SlR.nil_ _ _ _), (SlR.nil_ _ _ _), (SlR.nil_ _ _ _), (SlR.nil_ _ _ _)⟩
 replace hg := br_n hg G1
 refine S s<|kw<|pw<|sw<|vw<|mw q<|yw q (lS · q u25)<|mw q<|nw fun a s => ?_
 obtain ⟨Z2, hg, E3⟩ := zJ hg
 refine c_post (fun a w => Z2 = some r ∧ St (cx f17 M w0) [(4, vP b2 0), (8, vP t0 0)] [(1000, Ob.box b2 [vT ([]), nS, nS, nS, nS, nS, nS, nS, nS, nS] 38), (1402, Ob.box t0 [vT (t_'), nS, sl A13 n0 r0, sl A17 l0 q0, sl A21 j0 p0, sl A25 h0 o0, sl A29 e0 m0, sl A33 d0 k0, sl A37 c0 i0, sl A41 b0 g0] 38), (700104, Ob.row (A13) ((n0).length) (r0) 49 3 (X0)), (700106, Ob.row (A17) ((l0).length) (q0) 62 6 (Q0)), (700108, Ob.row (A21) ((j0).length) (p0) 89 7 (L0)), (700110, Ob.row (A25) ((h0).length) (o0) 94 8 (J0)), (700112, Ob.row (A29) ((e0).length) (m0) 62 6 (H0)), (700114, Ob.row (A33) ((d0).length) (k0) 62 6 (G0)), (700116, Ob.row (A37) ((c0).length) (i0) 25 1 (F0)), (700118, Ob.row (A41) ((b0).length) (g0) 9 1 (E0))] [(105, rdF RTypeDecl (X0) (n0)), (107, rdF RDef (Q0) (l0)), (109, rdF REntryDecl (L0) (j0)), (111, rdF RLexDecl (J0) (h0)), (113, rdF RDef (H0) (e0)), (115, rdF RDef (G0) (d0)), (117, rdF (Rep.list Rep.str) (F0) (c0)), (119, rdF Rep.str (E0) (b0))] a w) ?_ ?_
 ·apply wp_block
  refine c_loop (σ := Nat) (fun m2 a w => ∃ (d1 : Nat), module_Link_L1 n t_ r3 Z2 m2 d1 = some r ∧ St (cx f17 M w0) [(0, sl R0 t_ U0), (4, vP b2 0), (8, vP t0 0), (94, sl Z0 r3.1 c1), (95, vI ((((r3.1).length : Nat) : Int))), (96, vI (((d1 : Nat) : Int)))] [(1000, Ob.box b2 [vT ([]), nS, nS, nS, nS, nS, nS, nS, nS, nS] 38), (1402, Ob.box t0 [vT (t_'), nS, sl A13 n0 r0, sl A17 l0 q0, sl A21 j0 p0, sl A25 h0 o0, sl A29 e0 m0, sl A33 d0 k0, sl A37 c0 i0, sl A41 b0 g0] 38), (700104, Ob.row (A13) ((n0).length) (r0) 49 3 (X0)), (700106, Ob.row (A17) ((l0).length) (q0) 62 6 (Q0)), (700108, Ob.row (A21) ((j0).length) (p0) 89 7 (L0)), (700110, Ob.row (A25) ((h0).length) (o0) 94 8 (J0)), (700112, Ob.row (A29) ((e0).length) (m0) 62 6 (H0)), (700114, Ob.row (A33) ((d0).length) (k0) 62 6 (G0)), (700116, Ob.row (A37) ((c0).length) (i0) 25 1 (F0)), (700118, Ob.row (A41) ((b0).length) (g0) 9 1 (E0))] [(101, sF RModule R0 U0 t_), (103, sF Rep.str Z0 c1 r3.1), (105, rdF RTypeDecl (X0) (n0)), (107, rdF RDef (Q0) (l0)), (109, rdF REntryDecl (L0) (j0)), (111, rdF RLexDecl (J0) (h0)), (113, rdF RDef (H0) (e0)), (115, rdF RDef (G0) (d0)), (117, rdF (Rep.list Rep.str) (F0) (c0)), (119, rdF Rep.str (E0) (b0))] a w) (fun m2 => m2) n ⟨(0), hg, (s.sb q q q)⟩ ?_
  clear s a; rintro m2 a w ⟨d1, hg, s⟩
  rcases m2 with _ | m2
  ·rw [module_Link_L1] at hg; cases hg
  rw [module_Link_L1] at hg
  refine S s<|vw<|yw q (y_lssN (i := d1) (j := ((r3.1).length)) · q q)<|nw<|sw fun a s => c_dec s q (fun H1 => ?_) (fun H1 => ?_)
  ·replace hg := br_t hg H1
   have O4 := SlR.mx (s.ft 103 q)
   obtain ⟨g5, V2, hg⟩ := zB hg
   refine S s<|kw<|pw<|sw<|bw<|sw<|lw fun a s => ?_
   obtain ⟨V4, B3, F3, H3, K4, y3, w3⟩ := SlR.elemX (s.ft 103 q) V2
   refine qq s q (eL 1 d1 s u25 B3 (lt_of_get V2) q) fun a s => ?_
   obtain ⟨rfl, R4⟩ := y3
   obtain ⟨s0, U3, hg⟩ := zB hg
   refine S s<|yw q (lP · F3 H3 (w3 0 _ q) u9 q)<|aw q<|nw<|sw<|lw<|mw q<|mw q fun a s => ?_
   refine lC s q func27 (c_module_find n _ _ s.lt _ _ _ (s.ft 101 q) _ (by omega) _ U3) fun b5 a w hK hp s => ?_
   obtain ⟨j2, E2, k2, F2, l2, G2, n2, H2, o2, I2, p2, J2, q2, K2, r2, L2, i2, D2, rfl, T4, l4, m4, n4, o4, p4, q4, r4, s4, k4⟩ := hp
   refine S s<|nsw 211 l4<|nsw 212 m4<|nsw 213 n4<|nsw 214 o4<|nsw 215 p4<|nsw 216 q4<|nsw 217 r4<|nsw 218 s4<|nsw 219 k4<|mw q<|yw q (y_extract · q q)<|yw q (y_extract · q q) fun a s => ?_
   refine l_seq q (l_alloc (zs := [vT ([]), nS, nS, nS, nS, nS, nS, nS, nS, nS]) s 3306 q q q q fun k3 a w hb hK s => ?_)
   refine l_seq q (l_store (n := 10) (cs' := [vT s0.1.Name, sl j2 s0.1.Imports E2, sl k2 s0.1.Types F2, sl l2 s0.1.Templates G2, sl n2 s0.1.Entries H2, sl o2 s0.1.LexRules I2, sl p2 s0.1.Rules J2, sl q2 s0.1.Roots K2, sl r2 s0.1.Checks L2, sl i2 s0.1.Drops D2]) s 3306 q q q q q q q q ?_); clear s; intro w hK s; clear hK
   obtain ⟨C1, V3, hg⟩ := zB hg
   refine S s<|aw q<|nw<|sw<|lw<|mw q<|mw q fun a s => ?_
   refine lC s q func15 (c_module_Visible n _ _ s.lt _ _ _ (s.ft 101 q) _ (by omega) _ V3) fun c5 a w hK hp s => ?_
   obtain ⟨x1, B1, rfl, t4⟩ := hp
   replace s := s.ns 221 t4
   refine l_seq q (l_alloc (zs := [nS]) s 3403 q q q q fun E1 a w hb hK s => ?_)
   refine l_seq q (l_store (n := 1) (cs' := [sl x1 C1 B1]) s 3403 q q q q q q q q ?_); clear s; intro w hK s; clear hK
   obtain ⟨Z4, X3, hg⟩ := zB hg
   obtain ⟨a5, Y3, hg⟩ := zB hg
   refine S s<|nw<|sw<|lw<|yw q (y_loadAll (kk := 3306) · q q u38 q q) fun a s => ?_
   refine lC s q func38 (c_module_uses n _ _ s.lt _ _ _ _ _ _ _ _ _ _ _ _ _ _ _ _ _ _ _ (by omega) (s.ft 211 q) (s.ft 212 q) (s.ft 213 q) (s.ft 214 q) (s.ft 215 q) (s.ft 216 q) (s.ft 217 q) (s.ft 218 q) (s.ft 219 q) _ X3) fun d5 a w hK hp s => ?_
   obtain ⟨I4, M4, rfl, v4⟩ := hp
   replace s := s.ns 224 v4
   replace s := s.freezeBox (L' := [(1000, Ob.box b2 [vT ([]), nS, nS, nS, nS, nS, nS, nS, nS, nS] 38), (1402, Ob.box t0 [vT (t_'), nS, sl A13 n0 r0, sl A17 l0 q0, sl A21 j0 p0, sl A25 h0 o0, sl A29 e0 m0, sl A33 d0 k0, sl A37 c0 i0, sl A41 b0 g0] 38), (3306, Ob.box k3 [vT s0.1.Name, sl j2 s0.1.Imports E2, sl k2 s0.1.Types F2, sl l2 s0.1.Templates G2, sl n2 s0.1.Entries H2, sl o2 s0.1.LexRules I2, sl p2 s0.1.Rules J2, sl q2 s0.1.Roots K2, sl r2 s0.1.Checks L2, sl i2 s0.1.Drops D2] 38), (700104, Ob.row (A13) ((n0).length) (r0) 49 3 (X0)), (700106, Ob.row (A17) ((l0).length) (q0) 62 6 (Q0)), (700108, Ob.row (A21) ((j0).length) (p0) 89 7 (L0)), (700110, Ob.row (A25) ((h0).length) (o0) 94 8 (J0)), (700112, Ob.row (A29) ((e0).length) (m0) 62 6 (H0)), (700114, Ob.row (A33) ((d0).length) (k0) 62 6 (G0)), (700116, Ob.row (A37) ((c0).length) (i0) 25 1 (F0)), (700118, Ob.row (A41) ((b0).length) (g0) 9 1 (E0))]) 225 3403 q ⟨q, q, q, q, q, q, q, q, q, q, q, trivial⟩ q
   refine qq s q (y_makeFunc (xs := [.tmp 17]) (vs := [vP E1 0]) s q) fun a s => ?_
   refine lV s q func37 (c_slices_ContainsFunc_string n _ _ s.lt _ _ _ (s.ft 224 q) _ _ _ ⟨⟨_, _, func39, q, by kernel_rfl⟩, fun M1 w1 hk hm hlt vs x r hp hr => by obtain ⟨rfl, H4⟩ := hp; exact c_module_Link_1 n M1 w1 hlt (x) H4 E1 (C1) (x1) (B1) (Fact.move (sF Rep.str x1 B1 C1) hk hm (s.ft 221 q)) (Fact.move (boxF E1 [sl x1 C1 B1] 25) hk hm (s.ft 225 q)) r hr⟩ _ Y3) fun a w hK s => ?_
   apply wN
   refine c_cond s q (fun I1 => ?_) (fun I1 => ?_)
   ·replace hg := br_t hg I1
    refine S s<|vw<|yw q (y_build (parts := []) (ps := []) (cells := #[vT ([]), nS, nS, nS, nS, nS, nS, nS, nS, nS]) · q (by kernel_rfl)) fun a s => ?_
    refine l_seq q (l_store (n := 10) (cs' := [vT ([]), nS, nS, nS, nS, nS, nS, nS, nS, nS]) s 1000 q q q q q q q q ?_); clear s; intro w hK s; clear hK
    refine S s<|aw q<|nw fun a s => ?_
    apply wp_ret
    refine p_inR ?_
    refine p_thenR ?_
    refine p_thenR ?_
    refine p_inR ?_
    refine p_thenR ?_
    obtain rfl := si hg
    refine fin2 (fn := Tryz.f17) s q (r_cell (kk := 1000) (n := 10) (vs := [vT ([]), nS, nS, nS, nS, nS, nS, nS, nS, nS]) s q q u38 q q q q) (r_tmp s q) ?_
    exact ⟨(none), (0), (none), (0), (none), (0), (none), (0), (none), (0), (none), (0), (none), (0), (none), (0), (none), (0), q, lz, (SlR.nil_ _ _ _), (SlR.nil_ _ _ _), (SlR.nil_ _ _ _), (SlR.nil_ _ _ _), (SlR.nil_ _ _ _), (SlR.nil_ _ _ _), (SlR.nil_ _ _ _), (SlR.nil_ _ _ _), (SlR.nil_ _ _ _)⟩
   replace hg := br_n hg I1
   apply wp_skip
   refine p_inN ?_
   refine S s<|pw<|lw<|yw q (y_addN (i := d1) (j := 1) · q q (in64.2 (by omega)))<|mw q<|nw fun a s => ?_
   exact ⟨m2, Nat.lt_succ_self _, ⟨(d1 + 1), hg, (s.sb q q q)⟩⟩
  replace hg := br_f hg H1
  apply wp_exit
  refine p_then ?_
  refine p_then ?_
  refine p_in ?_
  apply pN
  exact ⟨hg, (s.sb q q q)⟩
 clear s a; rintro a w ⟨hg, s⟩
 subst E3
 apply wR
 refine qq s q (y_loadAll (kk := 1402) s q q u38 q q) fun a s => ?_
 refine l_seq q (l_store (n := 10) (cs' := [vT (t_'), nS, sl A13 n0 r0, sl A17 l0 q0, sl A21 j0 p0, sl A25 h0 o0, sl A29 e0 m0, sl A33 d0 k0, sl A37 c0 i0, sl A41 b0 g0]) s 1000 q q q q q q q q ?_); clear s; intro w hK s; clear hK
 refine S s<|aw q<|nw fun a s => ?_
 apply wp_ret
 obtain rfl := si hg
 refine fin2 (fn := Tryz.f17) s q (r_cell (kk := 1000) (n := 10) (vs := [vT (t_'), nS, sl A13 n0 r0, sl A17 l0 q0, sl A21 j0 p0, sl A25 h0 o0, sl A29 e0 m0, sl A33 d0 k0, sl A37 c0 i0, sl A41 b0 g0]) s q q u38 q q q q) (r_tmp s q) ?_
 exact ⟨(none), (0), (A13), (r0), (A17), (q0), (A21), (p0), (A25), (o0), (A29), (m0), (A33), (k0), (A37), (i0), (A41), (g0), q, (by omega), (SlR.nil_ _ _ _), (s.rowOut (R := RTypeDecl) (kk := 700104) q q (s.ft 105 q)), (s.rowOut (R := RDef) (kk := 700106) q q (s.ft 107 q)), (s.rowOut (R := REntryDecl) (kk := 700108) q q (s.ft 109 q)), (s.rowOut (R := RLexDecl) (kk := 700110) q q (s.ft 111 q)), (s.rowOut (R := RDef) (kk := 700112) q q (s.ft 113 q)), (s.rowOut (R := RDef) (kk := 700114) q q (s.ft 115 q)), (s.rowOut (R := (Rep.list Rep.str)) (kk := 700116) q q (s.ft 117 q)), (s.rowOut (R := Rep.str) (kk := 700118) q q (s.ft 119 q))⟩
end Go.Proofs.YtbhjplflnkidgaaGreat
