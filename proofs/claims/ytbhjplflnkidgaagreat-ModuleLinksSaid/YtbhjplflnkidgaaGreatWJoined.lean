/- Chapter 22: a walk -/
import Derived.Test.YtbhjplflnkidgaaGreatAU
import Derived.Test.YtbhjplflnkidgaaGreatW3
namespace Go.Proofs.YtbhjplflnkidgaaGreat
open Go.Gl Go.RowKit Tryz
set_option linter.unusedVariables false
set_option linter.unusedSimpArgs false
set_option maxRecDepth 4000
set_option maxHeartbeats 20000000 in
theorem c_r22_joined (n : Nat) (M : Bs) (w0 : World) (hM : bM M w0) (t_ : (List Module)) (d1 : OA) (i1 : Nat) (c3 : sR RModule M w0 d1 i1 t_) (t_' : (List (List UInt8))) (e1 : OA) (j1 : Nat) (d3 : sR Rep.str M w0 e1 j1 t_') (t_'' : (List UInt8)) (E3 : (t_'').length ≤ 9223372036854775807) (r : Module) (hg : r22_joined n t_ t_' t_'' = some r) :
    CA Tryz.prog 41 [sl d1 t_ i1, sl e1 t_' j1, vT t_''] w0 (fun v w => ∃ (I1 : OA), ∃ (T1 : Nat), ∃ (J1 : OA), ∃ (U1 : Nat), ∃ (K1 : OA), ∃ (V1 : Nat), ∃ (L1 : OA), ∃ (X1 : Nat), ∃ (M1 : OA), ∃ (Y1 : Nat), ∃ (O1 : OA), ∃ (Z1 : Nat), ∃ (P1 : OA), ∃ (a2 : Nat), ∃ (Q1 : OA), ∃ (c2 : Nat), ∃ (H1 : OA), ∃ (S1 : Nat), v = .agg #[vT r.Name, sl I1 r.Imports T1, sl J1 r.Types U1, sl K1 r.Templates V1, sl L1 r.Entries X1, sl M1 r.LexRules Y1, sl O1 r.Rules Z1, sl P1 r.Roots a2, sl Q1 r.Checks c2, sl H1 r.Drops S1] ∧ ((r.Name).length ≤ 9223372036854775807) ∧ (SlR Rep.str M w I1 (r.Imports).length T1 (r.Imports)) ∧ (SlR RTypeDecl M w J1 (r.Types).length U1 (r.Types)) ∧ (SlR RDef M w K1 (r.Templates).length V1 (r.Templates)) ∧ (SlR REntryDecl M w L1 (r.Entries).length X1 (r.Entries)) ∧ (SlR RLexDecl M w M1 (r.LexRules).length Y1 (r.LexRules)) ∧ (SlR RDef M w O1 (r.Rules).length Z1 (r.Rules)) ∧ (SlR RDef M w P1 (r.Roots).length a2 (r.Roots)) ∧ (SlR (Rep.list Rep.str) M w Q1 (r.Checks).length c2 (r.Checks)) ∧ (SlR Rep.str M w H1 (r.Drops).length S1 (r.Drops))) := by
 unfold r22_joined at hg
 refine enter M noB func41 q q hM ?_
 intro a s
 refine S s<|esw 101 c3<|esw 102 d3<|vw fun a s => ?_
 refine l_seq q (l_alloc (zs := [vT ([]), nS, nS, nS, nS, nS, nS, nS, nS, nS]) s 1000 q q q q fun b2 a w hb hK s => ?_)
 refine S s<|nw<|vw<|mw q<|yw q (y_build (parts := [(0, .tmp 10)]) (ps := [(0, vT (t_''))]) (cells := #[vT (t_''), nS, nS, nS, nS, nS, nS, nS, nS, nS]) · q (by kernel_rfl)) fun a s => ?_
 refine l_seq q (l_alloc (zs := [vT ([]), nS, nS, nS, nS, nS, nS, nS, nS, nS]) s 1102 q q q q fun b4 a w hb hK s => ?_)
 refine l_seq q (l_store (n := 10) (cs' := [vT (t_''), nS, nS, nS, nS, nS, nS, nS, nS, nS]) s 1102 q q q q q q q q ?_); clear s; intro w hK s; clear hK
 refine S s<|nw<|sw<|vw<|aw q<|nw fun a s => ?_
 obtain ⟨k5, hg, O2⟩ := zJ hg
 refine c_post (fun a w => ∃ (C0 : (List TypeDecl)) (t0 : (List Def)) (u0 : (List EntryDecl)) (v0 : (List LexDecl)) (x0 : (List Def)) (y0 : (List Def)) (z0 : (List (List (List UInt8)))), ∃ (B0 : (List (List UInt8))) (A7 : OA) (c8 : Nat) (v1 : List Value) (A11 : OA) (H0 : Nat) (o1 : List Value) (A15 : OA) (I0 : Nat) (p1 : List Value) (A19 : OA) (J0 : Nat) (q1 : List Value) (A23 : OA) (K0 : Nat) (r1 : List Value) (A27 : OA) (L0 : Nat) (s1 : List Value) (A31 : OA) (M0 : Nat) (t1 : List Value) (A35 : OA) (O0 : Nat) (u1 : List Value), k5 C0 t0 u0 v0 x0 y0 z0 B0 = some r ∧ St (cx f41 M w0) [(6, vP b2 0), (7, vP b4 0)] [(1000, Ob.box b2 [vT ([]), nS, nS, nS, nS, nS, nS, nS, nS, nS] 38), (1102, Ob.box b4 [vT (t_''), nS, sl A7 C0 c8, sl A11 t0 H0, sl A15 u0 I0, sl A19 v0 J0, sl A23 x0 K0, sl A27 y0 L0, sl A31 z0 M0, sl A35 B0 O0] 38), (700103, Ob.row (A7) ((C0).length) (c8) 49 3 (v1)), (700105, Ob.row (A11) ((t0).length) (H0) 62 6 (o1)), (700107, Ob.row (A15) ((u0).length) (I0) 89 7 (p1)), (700109, Ob.row (A19) ((v0).length) (J0) 94 8 (q1)), (700111, Ob.row (A23) ((x0).length) (K0) 62 6 (r1)), (700113, Ob.row (A27) ((y0).length) (L0) 62 6 (s1)), (700115, Ob.row (A31) ((z0).length) (M0) 25 1 (t1)), (700117, Ob.row (A35) ((B0).length) (O0) 9 1 (u1))] [(104, rdF RTypeDecl (v1) (C0)), (106, rdF RDef (o1) (t0)), (108, rdF REntryDecl (p1) (u0)), (110, rdF RLexDecl (q1) (v0)), (112, rdF RDef (r1) (x0)), (114, rdF RDef (s1) (y0)), (116, rdF (Rep.list Rep.str) (t1) (z0)), (118, rdF Rep.str (u1) (B0))] a w) ?_ ?_
 ·apply wp_block
  replace s := s.nilRow 700119 49 3 q
  replace s := s.add 120 (rdF RTypeDecl [] []) (rN)
  replace s := s.nilRow 700121 62 6 q
  replace s := s.add 122 (rdF RDef [] []) (rN)
  replace s := s.nilRow 700123 89 7 q
  replace s := s.add 124 (rdF REntryDecl [] []) (rN)
  replace s := s.nilRow 700125 94 8 q
  replace s := s.add 126 (rdF RLexDecl [] []) (rN)
  replace s := s.nilRow 700127 62 6 q
  replace s := s.add 128 (rdF RDef [] []) (rN)
  replace s := s.nilRow 700129 62 6 q
  replace s := s.add 130 (rdF RDef [] []) (rN)
  replace s := s.nilRow 700131 25 1 q
  replace s := s.add 132 (rdF (Rep.list Rep.str) [] []) (rN)
  replace s := s.nilRow 700133 9 1 q
  replace s := s.add 134 (rdF Rep.str [] []) (rN)
  refine c_loop (σ := Nat) (fun m1 a w => ∃ (F0 : Nat) (b0 : (List TypeDecl)) (c0 : (List Def)) (d0 : (List EntryDecl)) (e0 : (List LexDecl)) (g0 : (List Def)) (h0 : (List Def)) (i0 : (List (List (List UInt8)))), ∃ (j0 : (List (List UInt8))) (A40 : OA) (h1 : Nat) (R0 : List Value) (A44 : OA) (b1 : Nat) (S0 : List Value) (A48 : OA) (P0 : Nat) (T0 : List Value) (A52 : OA) (D0 : Nat) (U0 : List Value) (A56 : OA) (q0 : Nat) (V0 : List Value) (A60 : OA) (n0 : Nat) (X0 : List Value) (A64 : OA) (l0 : Nat) (Y0 : List Value) (A68 : OA) (k0 : Nat) (Z0 : List Value), r22_joined_L0 n t_ t_' k5 m1 F0 b0 c0 d0 e0 g0 h0 i0 j0 = some r ∧ St (cx f41 M w0) [(0, sl d1 t_ i1), (1, sl e1 (t_') j1), (6, vP b2 0), (7, vP b4 0), (8, vI (((F0 : Nat) : Int)))] [(1000, Ob.box b2 [vT ([]), nS, nS, nS, nS, nS, nS, nS, nS, nS] 38), (1102, Ob.box b4 [vT (t_''), nS, sl A40 b0 h1, sl A44 c0 b1, sl A48 d0 P0, sl A52 e0 D0, sl A56 g0 q0, sl A60 h0 n0, sl A64 i0 l0, sl A68 j0 k0] 38), (700119, Ob.row (A40) ((b0).length) (h1) 49 3 (R0)), (700121, Ob.row (A44) ((c0).length) (b1) 62 6 (S0)), (700123, Ob.row (A48) ((d0).length) (P0) 89 7 (T0)), (700125, Ob.row (A52) ((e0).length) (D0) 94 8 (U0)), (700127, Ob.row (A56) ((g0).length) (q0) 62 6 (V0)), (700129, Ob.row (A60) ((h0).length) (n0) 62 6 (X0)), (700131, Ob.row (A64) ((i0).length) (l0) 25 1 (Y0)), (700133, Ob.row (A68) ((j0).length) (k0) 9 1 (Z0))] [(101, sF RModule d1 i1 t_), (102, sF Rep.str e1 j1 (t_')), (120, rdF RTypeDecl (R0) (b0)), (122, rdF RDef (S0) (c0)), (124, rdF REntryDecl (T0) (d0)), (126, rdF RLexDecl (U0) (e0)), (128, rdF RDef (V0) (g0)), (130, rdF RDef (X0) (h0)), (132, rdF (Rep.list Rep.str) (Y0) (i0)), (134, rdF Rep.str (Z0) (j0))] a w) (fun m1 => m1) n ⟨(0), ([]), ([]), ([]), ([]), ([]), ([]), ([]), ([]), (none), (0), ([]), (none), (0), ([]), (none), (0), ([]), (none), (0), ([]), (none), (0), ([]), (none), (0), ([]), (none), (0), ([]), (none), (0), ([]), hg, (s.sb q q q)⟩ ?_
  clear s a; rintro m1 a w ⟨F0, b0, c0, d0, e0, g0, h0, i0, j0, A40, h1, R0, A44, b1, S0, A48, P0, T0, A52, D0, U0, A56, q0, V0, A60, n0, X0, A64, l0, Y0, A68, k0, Z0, hg, s⟩
  rcases m1 with _ | m1
  ·rw [r22_joined_L0] at hg; cases hg
  rw [r22_joined_L0] at hg
  refine S s<|sw<|vw<|mw q<|mw q<|yw q (lS · q u25)<|yw q (y_lssN (i := F0) (j := ((t_').length)) · q q)<|nw fun a s => c_dec s q (fun w1 => ?_) (fun w1 => ?_)
  ·replace hg := br_t hg w1
   have D3 := SlR.mx (s.ft 102 q)
   obtain ⟨J3, n2, hg⟩ := zB hg
   obtain ⟨y3, o3, hg⟩ := zB hg
   obtain ⟨a0, x1, hg⟩ := zB hg
   refine S s<|kw<|pw<|sw<|bw<|sw<|lw<|mw q<|mw q<|mw q<|mw q fun a s => ?_
   obtain ⟨H3, L2, P2, R2, B3, J2, H2⟩ := SlR.elemX (s.ft 102 q) n2
   refine qq s q (eL 1 F0 s u25 L2 (lt_of_get n2) q) fun a s => ?_
   obtain ⟨rfl, F3⟩ := J2
   refine qq s q (lP s P2 R2 (H2 0 _ q) u9 q) fun a s => ?_
   refine lV s q func28 (c_r22_find n _ _ s.lt _ _ _ (s.ft 101 q) _ (by omega) _ o3) fun a w hK s => ?_
   obtain ⟨I3, M2, Q2, S2, C3, K2, I2⟩ := SlR.elemX (s.ft 101 q) (ix_some x1).1
   refine qq s q (y_elem (sz := 10) (i := ((y3).toNat)) s q q u22 q M2 (ix_some x1).2.1 (lt_of_get (ix_some x1).1)) fun a s => ?_
   obtain ⟨p2, y2, q2, z2, r2, B2, s2, C2, t2, D2, u2, E2, v2, F2, w2, G2, o2, x2, rfl, G3, g3, h3, i3, j3, k3, l3, m3, n3, e3⟩ := RModule.open K2
   refine S s<|nsw 144 g3<|nsw 145 h3<|nsw 146 i3<|nsw 147 j3<|nsw 148 k3<|nsw 149 l3<|nsw 150 m3<|nsw 151 n3<|nsw 152 e3<|yw q (y_ldp · q Q2 S2 (by simpa using I2) u38 q q) fun a s => ?_
   refine l_seq q (l_alloc (zs := [vT ([]), nS, nS, nS, nS, nS, nS, nS, nS, nS]) s 1509 q q q q fun z3 a w hb hK s => ?_)
   refine l_seq q (l_store (n := 10) (cs' := [vT a0.Name, sl p2 a0.Imports y2, sl q2 a0.Types z2, sl r2 a0.Templates B2, sl s2 a0.Entries C2, sl t2 a0.LexRules D2, sl u2 a0.Rules E2, sl v2 a0.Roots F2, sl w2 a0.Checks G2, sl o2 a0.Drops x2]) s 1509 q q q q q q q q ?_); clear s; intro w hK s; clear hK
   obtain ⟨l2, hg⟩ := zC hg
   refine S s<|nw<|sw<|lw<|yw q (bF 2 · u38 q)<|yw q (lB 1102 · u32 q)<|yw q (bF 2 · u38 q)<|yw q (lB 1509 · u32 q) fun a s => ?_
   obtain ⟨F1, w3, a3⟩ := SlR.src (s.ft 145 q)
   replace s := s.add 155 (rdF RTypeDecl F1 (a0.Types)) a3
   refine l_seq q (l_append (sz := 3) (by_ := 64) (N := (b0 ++ a0.Types).length) s 700119 q q q u32 q q q q q w3 (by rw [List.length_append]; try rfl) q (rmA l2 q) (rmB l2) q fun m0 o0 a w hA hK s => ?_)
   replace s := s.add 156 (rdF RTypeDecl (R0 ++ F1) (b0 ++ a0.Types)) (RdAll.append (s.ft 120 q) (s.ft 155 q))
   refine qq s q (bF 2 s u38 q) fun a s => ?_
   refine l_seq q (l_store (n := 1) (cs' := [vT (t_''), nS, sl m0 (b0 ++ a0.Types) o0, sl A44 c0 b1, sl A48 d0 P0, sl A52 e0 D0, sl A56 g0 q0, sl A60 h0 n0, sl A64 i0 l0, sl A68 j0 k0]) s 1102 q q q q q q q q ?_); clear s; intro w hK s; clear hK
   obtain ⟨m2, hg⟩ := zC hg
   refine S s<|nw<|sw<|lw<|yw q (bF 3 · u38 q)<|yw q (lB 1102 · u33 q)<|yw q (bF 3 · u38 q)<|yw q (lB 1509 · u33 q) fun a s => ?_
   obtain ⟨G1, x3, b3⟩ := SlR.src (s.ft 146 q)
   replace s := s.add 159 (rdF RDef G1 (a0.Templates)) b3
   refine l_seq q (l_append (sz := 6) (by_ := 112) (N := (c0 ++ a0.Templates).length) s 700121 q q q u33 q q q q q x3 (by rw [List.length_append]; try rfl) q (rmA m2 q) (rmB m2) q fun p0 r0 a w hA hK s => ?_)
   replace s := s.add 160 (rdF RDef (S0 ++ G1) (c0 ++ a0.Templates)) (RdAll.append (s.ft 122 q) (s.ft 159 q))
   refine qq s q (bF 3 s u38 q) fun a s => ?_
   refine l_seq q (l_store (n := 1) (cs' := [vT (t_''), nS, sl m0 (b0 ++ a0.Types) o0, sl p0 (c0 ++ a0.Templates) r0, sl A48 d0 P0, sl A52 e0 D0, sl A56 g0 q0, sl A60 h0 n0, sl A64 i0 l0, sl A68 j0 k0]) s 1102 q q q q q q q q ?_); clear s; intro w hK s; clear hK
   obtain ⟨e2, hg⟩ := zC hg
   refine S s<|nw<|sw<|lw<|yw q (bF 4 · u38 q)<|yw q (lB 1102 · u34 q)<|yw q (bF 4 · u38 q)<|yw q (lB 1509 · u34 q) fun a s => ?_
   obtain ⟨y1, p3, T2⟩ := SlR.src (s.ft 147 q)
   replace s := s.add 163 (rdF REntryDecl y1 (a0.Entries)) T2
   refine l_seq q (l_append (sz := 7) (by_ := 136) (N := (d0 ++ a0.Entries).length) s 700123 q q q u34 q q q q q p3 (by rw [List.length_append]; try rfl) q (rmA e2 q) (rmB e2) q fun s0 E0 a w hA hK s => ?_)
   replace s := s.add 164 (rdF REntryDecl (T0 ++ y1) (d0 ++ a0.Entries)) (RdAll.append (s.ft 124 q) (s.ft 163 q))
   refine qq s q (bF 4 s u38 q) fun a s => ?_
   refine l_seq q (l_store (n := 1) (cs' := [vT (t_''), nS, sl m0 (b0 ++ a0.Types) o0, sl p0 (c0 ++ a0.Templates) r0, sl s0 (d0 ++ a0.Entries) E0, sl A52 e0 D0, sl A56 g0 q0, sl A60 h0 n0, sl A64 i0 l0, sl A68 j0 k0]) s 1102 q q q q q q q q ?_); clear s; intro w hK s; clear hK
   obtain ⟨g2, hg⟩ := zC hg
   refine S s<|nw<|sw<|lw<|yw q (bF 5 · u38 q)<|yw q (lB 1102 · u35 q)<|yw q (bF 5 · u38 q)<|yw q (lB 1509 · u35 q) fun a s => ?_
   obtain ⟨z1, q3, U2⟩ := SlR.src (s.ft 148 q)
   replace s := s.add 167 (rdF RLexDecl z1 (a0.LexRules)) U2
   refine l_seq q (l_append (sz := 8) (by_ := 144) (N := (e0 ++ a0.LexRules).length) s 700125 q q q u35 q q q q q q3 (by rw [List.length_append]; try rfl) q (rmA g2 q) (rmB g2) q fun G0 Q0 a w hA hK s => ?_)
   replace s := s.add 168 (rdF RLexDecl (U0 ++ z1) (e0 ++ a0.LexRules)) (RdAll.append (s.ft 126 q) (s.ft 167 q))
   refine qq s q (bF 5 s u38 q) fun a s => ?_
   refine l_seq q (l_store (n := 1) (cs' := [vT (t_''), nS, sl m0 (b0 ++ a0.Types) o0, sl p0 (c0 ++ a0.Templates) r0, sl s0 (d0 ++ a0.Entries) E0, sl G0 (e0 ++ a0.LexRules) Q0, sl A56 g0 q0, sl A60 h0 n0, sl A64 i0 l0, sl A68 j0 k0]) s 1102 q q q q q q q q ?_); clear s; intro w hK s; clear hK
   obtain ⟨h2, hg⟩ := zC hg
   refine S s<|nw<|sw<|lw<|yw q (bF 6 · u38 q)<|yw q (lB 1102 · u33 q)<|yw q (bF 6 · u38 q)<|yw q (lB 1509 · u33 q) fun a s => ?_
   obtain ⟨B1, r3, V2⟩ := SlR.src (s.ft 149 q)
   replace s := s.add 171 (rdF RDef B1 (a0.Rules)) V2
   refine l_seq q (l_append (sz := 6) (by_ := 112) (N := (g0 ++ a0.Rules).length) s 700127 q q q u33 q q q q q r3 (by rw [List.length_append]; try rfl) q (rmA h2 q) (rmB h2) q fun a1 c1 a w hA hK s => ?_)
   replace s := s.add 172 (rdF RDef (V0 ++ B1) (g0 ++ a0.Rules)) (RdAll.append (s.ft 128 q) (s.ft 171 q))
   refine qq s q (bF 6 s u38 q) fun a s => ?_
   refine l_seq q (l_store (n := 1) (cs' := [vT (t_''), nS, sl m0 (b0 ++ a0.Types) o0, sl p0 (c0 ++ a0.Templates) r0, sl s0 (d0 ++ a0.Entries) E0, sl G0 (e0 ++ a0.LexRules) Q0, sl a1 (g0 ++ a0.Rules) c1, sl A60 h0 n0, sl A64 i0 l0, sl A68 j0 k0]) s 1102 q q q q q q q q ?_); clear s; intro w hK s; clear hK
   obtain ⟨i2, hg⟩ := zC hg
   refine S s<|nw<|sw<|lw<|yw q (bF 7 · u38 q)<|yw q (lB 1102 · u33 q)<|yw q (bF 7 · u38 q)<|yw q (lB 1509 · u33 q) fun a s => ?_
   obtain ⟨C1, s3, X2⟩ := SlR.src (s.ft 150 q)
   replace s := s.add 175 (rdF RDef C1 (a0.Roots)) X2
   refine l_seq q (l_append (sz := 6) (by_ := 112) (N := (h0 ++ a0.Roots).length) s 700129 q q q u33 q q q q q s3 (by rw [List.length_append]; try rfl) q (rmA i2 q) (rmB i2) q fun g1 k1 a w hA hK s => ?_)
   replace s := s.add 176 (rdF RDef (X0 ++ C1) (h0 ++ a0.Roots)) (RdAll.append (s.ft 130 q) (s.ft 175 q))
   refine qq s q (bF 7 s u38 q) fun a s => ?_
   refine l_seq q (l_store (n := 1) (cs' := [vT (t_''), nS, sl m0 (b0 ++ a0.Types) o0, sl p0 (c0 ++ a0.Templates) r0, sl s0 (d0 ++ a0.Entries) E0, sl G0 (e0 ++ a0.LexRules) Q0, sl a1 (g0 ++ a0.Rules) c1, sl g1 (h0 ++ a0.Roots) k1, sl A64 i0 l0, sl A68 j0 k0]) s 1102 q q q q q q q q ?_); clear s; intro w hK s; clear hK
   obtain ⟨j2, hg⟩ := zC hg
   refine S s<|nw<|sw<|lw<|yw q (bF 8 · u38 q)<|yw q (lB 1102 · u36 q)<|yw q (bF 8 · u38 q)<|yw q (lB 1509 · u36 q) fun a s => ?_
   obtain ⟨D1, t3, Y2⟩ := SlR.src (s.ft 151 q)
   replace s := s.add 179 (rdF (Rep.list Rep.str) D1 (a0.Checks)) Y2
   refine l_seq q (l_append (sz := 1) (by_ := 24) (N := (i0 ++ a0.Checks).length) s 700131 q q q u36 q q q q q t3 (by rw [List.length_append]; try rfl) q (rmA j2 q) (rmB j2) q fun l1 n1 a w hA hK s => ?_)
   replace s := s.add 180 (rdF (Rep.list Rep.str) (Y0 ++ D1) (i0 ++ a0.Checks)) (RdAll.append (s.ft 132 q) (s.ft 179 q))
   refine qq s q (bF 8 s u38 q) fun a s => ?_
   refine l_seq q (l_store (n := 1) (cs' := [vT (t_''), nS, sl m0 (b0 ++ a0.Types) o0, sl p0 (c0 ++ a0.Templates) r0, sl s0 (d0 ++ a0.Entries) E0, sl G0 (e0 ++ a0.LexRules) Q0, sl a1 (g0 ++ a0.Rules) c1, sl g1 (h0 ++ a0.Roots) k1, sl l1 (i0 ++ a0.Checks) n1, sl A68 j0 k0]) s 1102 q q q q q q q q ?_); clear s; intro w hK s; clear hK
   obtain ⟨k2, hg⟩ := zC hg
   refine S s<|nw<|lw<|yw q (bF 9 · u38 q)<|yw q (lB 1102 · u25 q)<|yw q (bF 9 · u38 q)<|yw q (lB 1509 · u25 q) fun a s => ?_
   obtain ⟨E1, v3, Z2⟩ := SlR.src (s.ft 152 q)
   replace s := s.add 183 (rdF Rep.str E1 (a0.Drops)) Z2
   refine l_seq q (l_append (sz := 1) (by_ := 16) (N := (j0 ++ a0.Drops).length) s 700133 q q q u25 q q q q q v3 (by rw [List.length_append]; try rfl) q (rmA k2 q) (rmB k2) q fun R1 d2 a w hA hK s => ?_)
   replace s := s.add 184 (rdF Rep.str (Z0 ++ E1) (j0 ++ a0.Drops)) (RdAll.append (s.ft 134 q) (s.ft 183 q))
   refine qq s q (bF 9 s u38 q) fun a s => ?_
   refine l_seq q (l_store (n := 1) (cs' := [vT (t_''), nS, sl m0 (b0 ++ a0.Types) o0, sl p0 (c0 ++ a0.Templates) r0, sl s0 (d0 ++ a0.Entries) E0, sl G0 (e0 ++ a0.LexRules) Q0, sl a1 (g0 ++ a0.Rules) c1, sl g1 (h0 ++ a0.Roots) k1, sl l1 (i0 ++ a0.Checks) n1, sl R1 (j0 ++ a0.Drops) d2]) s 1102 q q q q q q q q ?_); clear s; intro w hK s; clear hK
   apply wO
   refine p_inN ?_
   refine S s<|pw<|lw<|mw q<|yw q (y_addN (i := F0) (j := 1) · q q (in64.2 (by omega)))<|aw q<|nw<|alw 120 156 q<|alw 122 160 q<|alw 124 164 q<|alw 126 168 q<|alw 128 172 q<|alw 130 176 q<|alw 132 180 q<|alw 134 184 q fun a s => ?_
   exact ⟨m1, Nat.lt_succ_self _, ⟨(F0 + 1), (b0 ++ a0.Types), (c0 ++ a0.Templates), (d0 ++ a0.Entries), (e0 ++ a0.LexRules), (g0 ++ a0.Rules), (h0 ++ a0.Roots), (i0 ++ a0.Checks), (j0 ++ a0.Drops), (m0), (o0), (R0 ++ F1), (p0), (r0), (S0 ++ G1), (s0), (E0), (T0 ++ y1), (G0), (Q0), (U0 ++ z1), (a1), (c1), (V0 ++ B1), (g1), (k1), (X0 ++ C1), (l1), (n1), (Y0 ++ D1), (R1), (d2), (Z0 ++ E1), hg, (s.sb q q q)⟩⟩
  replace hg := br_f hg w1
  apply wp_exit
  refine p_then ?_
  refine p_then ?_
  refine p_in ?_
  refine S s<|pw<|alw 104 120 q<|alw 106 122 q<|alw 108 124 q<|alw 110 126 q<|alw 112 128 q<|alw 114 130 q<|alw 116 132 q<|alw 118 134 q fun a s => ?_
  replace s := s.pk [(1000, 1000), (1102, 1102), (700103, 700119), (700105, 700121), (700107, 700123), (700109, 700125), (700111, 700127), (700113, 700129), (700115, 700131), (700117, 700133)] (by decide)
  exact ⟨(b0), (c0), (d0), (e0), (g0), (h0), (i0), (j0), (A40), (h1), (R0), (A44), (b1), (S0), (A48), (P0), (T0), (A52), (D0), (U0), (A56), (q0), (V0), (A60), (n0), (X0), (A64), (l0), (Y0), (A68), (k0), (Z0), hg, (s.sb q q q)⟩
 clear s a; rintro a w ⟨C0, t0, u0, v0, x0, y0, z0, B0, A7, c8, v1, A11, H0, o1, A15, I0, p1, A19, J0, q1, A23, K0, r1, A27, L0, s1, A31, M0, t1, A35, O0, u1, hg, s⟩
 subst O2
 apply wR
 refine qq s q (y_loadAll (kk := 1102) s q q u38 q q) fun a s => ?_
 refine l_seq q (l_store (n := 10) (cs' := [vT (t_''), nS, sl A7 C0 c8, sl A11 t0 H0, sl A15 u0 I0, sl A19 v0 J0, sl A23 x0 K0, sl A27 y0 L0, sl A31 z0 M0, sl A35 B0 O0]) s 1000 q q q q q q q q ?_); clear s; intro w hK s; clear hK
 apply wN
 apply wp_ret
 obtain rfl := si hg
 refine fin1 (fn := Tryz.f41) s q (r_cell (kk := 1000) (n := 10) (vs := [vT (t_''), nS, sl A7 C0 c8, sl A11 t0 H0, sl A15 u0 I0, sl A19 v0 J0, sl A23 x0 K0, sl A27 y0 L0, sl A31 z0 M0, sl A35 B0 O0]) s q q u38 q q q q) ?_
 exact ⟨(none), (0), (A7), (c8), (A11), (H0), (A15), (I0), (A19), (J0), (A23), (K0), (A27), (L0), (A31), (M0), (A35), (O0), q, (by omega), (SlR.nil_ _ _ _), (s.rowOut (R := RTypeDecl) (kk := 700103) q q (s.ft 104 q)), (s.rowOut (R := RDef) (kk := 700105) q q (s.ft 106 q)), (s.rowOut (R := REntryDecl) (kk := 700107) q q (s.ft 108 q)), (s.rowOut (R := RLexDecl) (kk := 700109) q q (s.ft 110 q)), (s.rowOut (R := RDef) (kk := 700111) q q (s.ft 112 q)), (s.rowOut (R := RDef) (kk := 700113) q q (s.ft 114 q)), (s.rowOut (R := (Rep.list Rep.str)) (kk := 700115) q q (s.ft 116 q)), (s.rowOut (R := Rep.str) (kk := 700117) q q (s.ft 118 q))⟩
end Go.Proofs.YtbhjplflnkidgaaGreat
