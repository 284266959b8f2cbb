/- Chapter 22: the walks, part 4 -/
import Derived.Test.YtbhjplflnkidgaaGreatAU
import Derived.Test.YtbhjplflnkidgaaGreatA3
import Derived.Test.YtbhjplflnkidgaaGreatW3
namespace Go.Proofs.YtbhjplflnkidgaaGreat
open Go.Gl Go.RowKit Tryz
set_option linter.unusedVariables false
set_option linter.unusedSimpArgs false
set_option maxRecDepth 4000

set_option maxHeartbeats 1000000 in
theorem c_module_uses (n : Nat) (M : Bs) (w0 : World) (hM : ∀ b, M b → b < w0.heap.size) (t_ : Module) (Q0 : Option Addr) (h1 : Nat) (v0 : Option Addr) (x0 : Nat) (R0 : Option Addr) (i1 : Nat) (S0 : Option Addr) (j1 : Nat) (T0 : Option Addr) (k1 : Nat) (U0 : Option Addr) (l1 : Nat) (V0 : Option Addr) (n1 : Nat) (X0 : Option Addr) (o1 : Nat) (P0 : Option Addr) (g1 : Nat) (c4 : (t_.Name).length ≤ 9223372036854775807) (c3 : sR Rep.str M w0 Q0 h1 t_.Imports) (d3 : sR RTypeDecl M w0 v0 x0 t_.Types) (e3 : sR RDef M w0 R0 i1 t_.Templates) (g3 : sR REntryDecl M w0 S0 j1 t_.Entries) (h3 : sR RLexDecl M w0 T0 k1 t_.LexRules) (i3 : sR RDef M w0 U0 l1 t_.Rules) (j3 : sR RDef M w0 V0 n1 t_.Roots) (l3 : sR (Rep.list Rep.str) M w0 X0 o1 t_.Checks) (b3 : sR Rep.str M w0 P0 g1 t_.Drops) (r : (List (List UInt8))) (hg : module_uses n t_ = some r) :
    Calls Tryz.prog 38 [.agg #[vT t_.Name, sl Q0 t_.Imports h1, sl v0 t_.Types x0, sl R0 t_.Templates i1, sl S0 t_.Entries j1, sl T0 t_.LexRules k1, sl U0 t_.Rules l1, sl V0 t_.Roots n1, sl X0 t_.Checks o1, sl P0 t_.Drops g1]].toArray w0 (Ret noB w0 fun v w => ∃ (E1 : Option Addr), ∃ (I1 : Nat), v = sl E1 r I1 ∧ (SlR Rep.str M w E1 (r).length I1 (r))) := by
 unfold module_uses at hg
 refine enter M noB func38 q q hM ?_
 intro a s
 let F : Al Fact := [(101, sF Rep.str Q0 h1 t_.Imports), (102, sF RTypeDecl v0 x0 t_.Types), (103, sF RDef R0 i1 t_.Templates), (104, sF REntryDecl S0 j1 t_.Entries), (105, sF RLexDecl T0 k1 t_.LexRules), (106, sF RDef U0 l1 t_.Rules), (107, sF RDef V0 n1 t_.Roots), (108, sF (Rep.list Rep.str) X0 o1 t_.Checks), (109, sF Rep.str P0 g1 t_.Drops)]
 let B : List Value := [vT t_.Name, sl Q0 t_.Imports h1, sl v0 t_.Types x0, sl R0 t_.Templates i1, sl S0 t_.Entries j1, sl T0 t_.LexRules k1, sl U0 t_.Rules l1, sl V0 t_.Roots n1, sl X0 t_.Checks o1, sl P0 t_.Drops g1]
 refine S s<|esw 101 c3<|esw 102 d3<|esw 103 e3<|esw 104 g3<|esw 105 h3<|esw 106 i3<|esw 107 j3<|esw 108 l3<|esw 109 b3<|vw fun a s => ?_
 refine l_seq q (l_box (zs := B) s 1000 q q q q fun b2 a w hb hK s => ?_)
 refine S s<|aw q<|nw<|vw<|aw q<|nw<|sw<|vw<|yw q (bF 2 · u38 q)<|yw q (lB 1000 · u32 q)<|yw q (lS · q u32)<|mw q<|nw fun a s => ?_
 obtain ⟨k3, hg, L2⟩ := jn_some hg
 refine c_post (fun a w => ∃ (J0 : (List (List UInt8))) (A5 : Option Addr) (c6 : Nat) (s1 : List Value), k3 J0 = some r ∧ St (cx f38 M w0) [(1, vP b2 0), (3, sl A5 J0 c6)] [(1000, Ob.box b2 B 38), (700110, Ob.row (A5) ((J0).length) (c6) 9 1 (s1))] (F ++ [(111, rdF Rep.str (s1) (J0))]) a w) ?_ ?_
 ·apply wp_block
  replace s := s.nilRow 700112 9 1 q
  replace s := s.add 113 (rdF Rep.str [] []) (rN)
  refine c_loop (σ := Nat) (fun m1 a w => ∃ (p0 : (List (List UInt8))) (n0 : Nat) (A9 : Option Addr) (Y0 : Nat) (E0 : List Value), module_uses_L0 n t_ k3 m1 p0 n0 = some r ∧ St (cx f38 M w0) [(1, vP b2 0), (3, sl A9 p0 Y0), (17, sl v0 t_.Types x0), (18, vI ((((t_.Types).length : Nat) : Int))), (19, vI (((n0 : Nat) : Int)))] [(1000, Ob.box b2 B 38), (700112, Ob.row (A9) ((p0).length) (Y0) 9 1 (E0))] (F ++ [(113, rdF Rep.str (E0) (p0))]) a w) (fun m1 => m1) n ⟨([]), (0), (none), (0), ([]), hg, (s.sb q q q)⟩ ?_
  clear s a; rintro m1 a w ⟨p0, n0, A9, Y0, E0, hg, s⟩
  rcases m1 with _ | m1
  ·rw [module_uses_L0] at hg; cases hg
  rw [module_uses_L0] at hg
  refine S s<|vw<|yw q (y_lssN (i := n0) (j := ((t_.Types).length)) · q q)<|nw<|sw fun a s => c_dec s q (fun x1 => ?_) (fun x1 => ?_)
  ·replace hg := br_t hg x1
   have Y3 := SlR.mx (s.ft 102 q)
   apply wp_skip
   apply pN
   apply wQ
   obtain ⟨Z1, hg, K2⟩ := jn_some hg
   refine c_post (fun a w => ∃ (I0 : (List (List UInt8))) (A17 : Option Addr) (a1 : Nat) (p1 : List Value), Z1 I0 = some r ∧ St (cx f38 M w0) [(1, vP b2 0), (3, sl A17 I0 a1), (17, sl v0 t_.Types x0), (18, vI ((((t_.Types).length : Nat) : Int))), (19, vI (((n0 : Nat) : Int)))] [(1000, Ob.box b2 B 38), (700114, Ob.row (A17) ((I0).length) (a1) 9 1 (p1))] (F ++ [(115, rdF Rep.str (p1) (I0))]) a w) ?_ ?_
   ·obtain ⟨c0, U1, hg⟩ := bind_some hg
    apply wp_block
    apply wQ
    apply wL
    obtain ⟨n4, F2, Q2, U2, S3, B2, w2⟩ := SlR.elemX (s.ft 102 q) U1
    refine qq s q (eL 3 n0 s u32 F2 (lt_of_get U1) q) fun a s => ?_
    obtain ⟨g2, n2, u1, v1, rfl, e4, n3, o3⟩ := RTypeDecl.open B2
    refine S s<|nsw 118 n3<|nsw 119 o3<|yw q (y_ldp · q Q2 U2 (by simpa using w2) u49 q q) fun a s => ?_
    refine l_seq q (l_alloc (zs := [vT ([]), nS, nS]) s 1402 q q q q fun K3 a w hb hK s => ?_)
    refine l_seq q (l_store (n := 3) (cs' := [vT c0.Name, sl g2 c0.Supers n2, sl u1 c0.Feats v1]) s 1402 q q q q q q q q ?_); clear s; intro w hK s; clear hK
    obtain ⟨Q1, hg⟩ := chk_some hg
    refine S s<|nw<|sw<|lw<|mw q<|yw q (bF 1 · u49 q)<|yw q (lB 1402 · u25 q) fun a s => ?_
    obtain ⟨D1, x3, Z2⟩ := SlR.src (s.ft 118 q)
    replace s := s.add 122 (rdF Rep.str D1 (c0.Supers)) Z2
    refine l_seq q (l_append (sz := 1) (by_ := 16) (N := (p0 ++ c0.Supers).length) s 700112 q q q u25 q q q q q x3 (by rw [List.length_append]; try rfl) q (rmA Q1 q) (rmB Q1) q fun h2 o2 a w hA hK s => ?_)
    replace s := s.add 123 (rdF Rep.str (E0 ++ D1) (p0 ++ c0.Supers)) (RdAll.append (s.ft 113 q) (s.ft 122 q))
    refine S s<|aw q<|nw<|vw<|yw q (bF 2 · u49 q)<|yw q (lB 1402 · u47 q)<|yw q (lS · q u47)<|mw q<|nw<|bw<|alw 125 123 q fun a s => ?_
    replace s := s.pk [(1000, 1000), (1402, 1402), (700124, 700112)] (by decide)
    refine c_loop (σ := Nat) (fun m2 a w => ∃ (o0 : (List (List UInt8))) (z0 : Nat) (A33 : Option Addr) (b1 : Nat) (G0 : List Value), module_uses_L1 n Z1 c0 m2 o0 z0 = some r ∧ St (cx f38 M w0) [(1, vP b2 0), (3, sl A33 o0 b1), (17, sl v0 t_.Types x0), (18, vI ((((t_.Types).length : Nat) : Int))), (19, vI (((n0 : Nat) : Int))), (28, sl u1 c0.Feats v1), (29, vI ((((c0.Feats).length : Nat) : Int))), (30, vI (((z0 : Nat) : Int)))] [(1000, Ob.box b2 B 38), (700124, Ob.row (A33) ((o0).length) (b1) 9 1 (G0))] (F ++ [(119, sF RFeatDecl u1 v1 c0.Feats), (125, rdF Rep.str (G0) (o0))]) a w) (fun m2 => m2) n ⟨(p0 ++ c0.Supers), (0), (h2), (o2), (E0 ++ D1), hg, (s.sb q q q)⟩ ?_
    clear s a; rintro m2 a w ⟨o0, z0, A33, b1, G0, hg, s⟩
    rcases m2 with _ | m2
    ·rw [module_uses_L1] at hg; cases hg
    rw [module_uses_L1] at hg
    refine S s<|vw<|yw q (y_lssN (i := z0) (j := ((c0.Feats).length)) · q q)<|nw<|sw fun a s => c_dec s q (fun y1 => ?_) (fun y1 => ?_)
    ·replace hg := br_t hg y1
     have Z3 := SlR.mx (s.ft 119 q)
     obtain ⟨s0, V1, hg⟩ := bind_some hg
     refine S s<|kw<|pw<|sw<|bw<|sw<|lw fun a s => ?_
     obtain ⟨o4, G2, R2, V2, T3, C2, x2⟩ := SlR.elemX (s.ft 119 q) V1
     refine qq s q (eL 2 z0 s u47 G2 (lt_of_get V1) q) fun a s => ?_
     obtain ⟨rfl, g4, h4⟩ := RFeatDecl.open C2
     refine qq s q (y_ldp s q R2 V2 (by simpa using x2) u82 q q) fun a s => ?_
     refine l_seq q (l_alloc (zs := [vT ([]), vT ([])]) s 1802 q q q q fun L3 a w hb hK s => ?_)
     refine l_seq q (l_store (n := 2) (cs' := [vT s0.Feat, vT s0.Value]) s 1802 q q q q q q q q ?_); clear s; intro w hK s; clear hK
     obtain ⟨R1, hg⟩ := chk_some hg
     refine S s<|nw<|lw<|mw q<|yw q (bF 1 · u82 q)<|yw q (lB 1802 · u9 q) fun a s => ?_
     refine l_seq q (l_buildDense (sz := 1) s 1903 q q q u25 q q q q q q q fun M3 a w t2 hK s => ?_)
     clear t2
     replace s := s.add 128 (rdF Rep.str (cellsOfL [vT s0.Value]) ([s0.Value])) (RdAll.cons (by exact ⟨q, (by omega)⟩) (rN))
     have y3 := row_src (s.wd.holds 1903 _ q) (RdAll.one (s.ft 128 q))
     refine l_seq q (l_append (sz := 1) (by_ := 16) (N := (o0 ++ [s0.Value]).length) s 700124 q q q u25 q q q q q y3 (by rw [List.length_append]; try rfl) q (rmA R1 q) (rmB R1) q fun i2 p2 a w hA hK s => ?_)
     replace s := s.add 129 (rdF Rep.str (G0 ++ (cellsOfL [vT s0.Value])) (o0 ++ [s0.Value])) (RdAll.append (s.ft 125 q) (s.ft 128 q))
     refine asg s q q fun a s => ?_
     apply wO
     refine p_inN ?_
     refine S s<|pw<|lw<|yw q (y_addN (i := z0) (j := 1) · q q (in64.2 (by omega)))<|mw q<|nw<|alw 125 129 q fun a s => ?_
     exact ⟨m2, Nat.lt_succ_self _, ⟨(o0 ++ [s0.Value]), (z0 + 1), (i2), (p2), (G0 ++ (cellsOfL [vT s0.Value])), hg, (s.sb q q q)⟩⟩
    replace hg := br_f hg y1
    apply wp_exit
    refine p_then ?_
    refine p_then ?_
    refine p_in ?_
    refine p_inN ?_
    apply pN
    replace s := s.al 115 125 q
    replace s := s.pk [(1000, 1000), (700114, 700124)] (by decide)
    exact ⟨(o0), (A33), (b1), (G0), hg, (s.sb q q q)⟩
   clear s a; rintro a w ⟨I0, A17, a1, p1, hg, s⟩
   subst K2
   refine S s<|lw<|yw q (y_addN (i := n0) (j := 1) · q q (in64.2 (by omega)))<|mw q<|nw<|alw 113 115 q fun a s => ?_
   replace s := s.pk [(1000, 1000), (700112, 700114)] (by decide)
   exact ⟨m1, Nat.lt_succ_self _, ⟨(I0), (n0 + 1), (A17), (a1), (p1), hg, (s.sb q q q)⟩⟩
  replace hg := br_f hg x1
  apply wp_exit
  refine p_then ?_
  refine p_then ?_
  refine p_in ?_
  apply pN
  replace s := s.al 111 113 q
  replace s := s.pk [(1000, 1000), (700110, 700112)] (by decide)
  exact ⟨(p0), (A9), (Y0), (E0), hg, (s.sb q q q)⟩
 clear s a; rintro a w ⟨J0, A5, c6, s1, hg, s⟩
 subst L2
 obtain ⟨b0, t3, hg⟩ := bind_some hg
 refine S s<|sw<|sw<|lw<|yw q (y_loadAll (kk := 1000) · q q u38 q q) fun a s => ?_
 refine lC s q func65 (c_module_definitions n _ _ s.lt _ _ _ _ _ _ _ _ _ _ _ _ _ _ _ _ _ _ _ (by omega) (s.ft 101 q) (s.ft 102 q) (s.ft 103 q) (s.ft 104 q) (s.ft 105 q) (s.ft 106 q) (s.ft 107 q) (s.ft 108 q) (s.ft 109 q) _ t3) fun r4 a w hK hp s => ?_
 obtain ⟨e0, g0, rfl, D3⟩ := hp
 refine S s<|nsw 131 D3<|yw q (lS · q u33)<|mw q<|nw<|bw<|alw 133 111 q fun a s => ?_
 replace s := s.pk [(1000, 1000), (700132, 700110)] (by decide)
 refine c_loop (σ := Nat) (fun m3 a w => ∃ (K0 : (List (List UInt8))) (d0 : Nat) (A59 : Option Addr) (O0 : Nat) (q1 : List Value), module_uses_L2 n b0 m3 K0 d0 = some r ∧ St (cx f38 M w0) [(3, sl A59 K0 O0), (42, sl e0 b0 g0), (43, vI ((((b0).length : Nat) : Int))), (44, vI (((d0 : Nat) : Int)))] [(700132, Ob.row (A59) ((K0).length) (O0) 9 1 (q1))] [(131, sF RDef e0 g0 b0), (133, rdF Rep.str (q1) (K0))] a w) (fun m3 => m3) n ⟨(J0), (0), (A5), (c6), (s1), hg, (s.sb q q q)⟩ ?_
 clear s a; rintro m3 a w ⟨K0, d0, A59, O0, q1, hg, s⟩
 rcases m3 with _ | m3
 ·rw [module_uses_L2] at hg; cases hg
 rw [module_uses_L2] at hg
 refine S s<|vw<|yw q (y_lssN (i := d0) (j := ((b0).length)) · q q)<|nw<|sw fun a s => c_dec s q (fun z1 => ?_) (fun z1 => ?_)
 ·replace hg := br_t hg z1
  have a4 := SlR.mx (s.ft 131 q)
  apply wp_skip
  apply pN
  apply wQ
  obtain ⟨a2, hg, M2⟩ := jn_some hg
  refine c_post (fun a w => ∃ (L0 : (List (List UInt8))) (A67 : Option Addr) (c1 : Nat) (r1 : List Value), a2 L0 = some r ∧ St (cx f38 M w0) [(3, sl A67 L0 c1), (42, sl e0 b0 g0), (43, vI ((((b0).length : Nat) : Int))), (44, vI (((d0 : Nat) : Int)))] [(700134, Ob.row (A67) ((L0).length) (c1) 9 1 (r1))] [(131, sF RDef e0 g0 b0), (135, rdF Rep.str (r1) (L0))] a w) ?_ ?_
  ·obtain ⟨a0, X1, hg⟩ := bind_some hg
   apply wp_block
   apply wQ
   apply wL
   obtain ⟨p4, H2, S2, X2, U3, D2, y2⟩ := SlR.elemX (s.ft 131 q) X1
   refine qq s q (eL 6 d0 s u33 H2 (lt_of_get X1) q) fun a s => ?_
   obtain ⟨h0, j0, i0, k0, j2, q2, rfl, i4, j4, p3, q3, r3⟩ := RDef.open D2
   refine S s<|nsw 139 p3<|nsw 140 q3<|nsw 141 r3<|yw q (y_ldp · q S2 X2 (by simpa using y2) u62 q q) fun a s => ?_
   refine l_seq q (l_alloc (zs := [vT ([]), vI 0, vT ([]), nS, nS, nS]) s 2402 q q q q fun O3 a w hb hK s => ?_)
   refine l_seq q (l_store (n := 6) (cs' := [vT a0.Name, vI a0.Strict.Op, vT a0.Strict.Name, sl h0 a0.Strict.Path j0, sl i0 a0.Strict.Kids k0, sl j2 a0.Defaults q2]) s 2402 q q q q q q q q ?_); clear s; intro w hK s; clear hK
   obtain ⟨S1, hg⟩ := chk_some hg
   refine S s<|nw<|sw<|lw<|yw q (bF 1 · u62 q)<|yw q (y_loadBox (kk := 2402) (n := 4) (vs := [vI a0.Strict.Op, vT a0.Strict.Name, sl h0 a0.Strict.Path j0, sl i0 a0.Strict.Kids k0]) · q q u60 q q q q) fun a s => ?_
   refine l_seq q (l_buildDense (sz := 4) s 2502 q q q u58 q q q q q q q fun P3 a w u2 hK s => ?_)
   clear u2
   refine S s<|yw q (bF 5 · u62 q)<|yw q (lB 2402 · u58 q) fun a s => ?_
   replace s := s.add 145 (rdF RDesc (cellsOfL [.agg #[_, _, _, _]]) ([a0.Strict])) (RdAll.cons (by exact (RDesc.mk' (x := a0.Strict) (by omega) (s.ft 139 q) (s.ft 140 q))) (rN))
   obtain ⟨t0, z3, a3⟩ := SlR.src (s.ft 141 q)
   replace s := s.add 146 (rdF RDesc t0 (a0.Defaults)) a3
   refine l_seq q (l_append (sz := 4) (by_ := 72) (N := ([a0.Strict] ++ a0.Defaults).length) s 2502 q q q u58 q q q q q z3 (by rw [List.length_append]; try rfl) q (rmA S1 q) (rmB S1) q fun C0 D0 a w hA hK s => ?_)
   replace s := s.add 147 (rdF RDesc ((cellsOfL [.agg #[vI a0.Strict.Op, vT a0.Strict.Name, sl h0 a0.Strict.Path j0, sl i0 a0.Strict.Kids k0]]) ++ t0) ([a0.Strict] ++ a0.Defaults)) (RdAll.append (s.ft 145 q) (s.ft 146 q))
   refine S s<|yw q (lS · q u58)<|mw q<|nw<|bw<|alw 149 133 q fun a s => ?_
   replace s := s.pk [(2402, 2402), (2502, 2502), (700148, 700132)] (by decide)
   refine c_loop (σ := Nat) (fun m4 a w => ∃ (q0 : (List (List UInt8))) (r0 : Nat) (A85 : Option Addr) (d1 : Nat) (H0 : List Value), module_uses_L3 n a2 a0 m4 q0 r0 = some r ∧ St (cx f38 M w0) [(3, sl A85 q0 d1), (42, sl e0 b0 g0), (43, vI ((((b0).length : Nat) : Int))), (44, vI (((d0 : Nat) : Int))), (53, sl C0 ([a0.Strict] ++ a0.Defaults) D0), (54, vI (((([a0.Strict] ++ a0.Defaults).length : Nat) : Int))), (55, vI (((r0 : Nat) : Int)))] [(2502, Ob.row (C0) (([a0.Strict] ++ a0.Defaults).length) (D0) 60 4 ((cellsOfL [.agg #[vI a0.Strict.Op, vT a0.Strict.Name, sl h0 a0.Strict.Path j0, sl i0 a0.Strict.Kids k0]]) ++ t0)), (700148, Ob.row (A85) ((q0).length) (d1) 9 1 (H0))] [(131, sF RDef e0 g0 b0), (147, rdF RDesc ((cellsOfL [.agg #[vI a0.Strict.Op, vT a0.Strict.Name, sl h0 a0.Strict.Path j0, sl i0 a0.Strict.Kids k0]]) ++ t0) ([a0.Strict] ++ a0.Defaults)), (149, rdF Rep.str (H0) (q0))] a w) (fun m4 => m4) n ⟨(K0), (0), (A59), (O0), (q1), hg, (s.sb q q q)⟩ ?_
   clear s a; rintro m4 a w ⟨q0, r0, A85, d1, H0, hg, s⟩
   rcases m4 with _ | m4
   ·rw [module_uses_L3] at hg; cases hg
   rw [module_uses_L3] at hg
   refine S s<|vw<|yw q (y_lssN (i := r0) (j := (([a0.Strict] ++ a0.Defaults).length)) · q q)<|nw<|sw fun a s => c_dec s q (fun B1 => ?_) (fun B1 => ?_)
   ·replace hg := br_t hg B1
    have b4 := row_mx (s.wd.holds 2502 _ q)
    apply wp_skip
    apply pN
    apply wQ
    obtain ⟨c2, hg, O2⟩ := jn_some hg
    refine c_post (fun a w => ∃ (M0 : (List (List UInt8))) (A93 : Option Addr) (e1 : Nat) (t1 : List Value), c2 M0 = some r ∧ St (cx f38 M w0) [(3, sl A93 M0 e1), (42, sl e0 b0 g0), (43, vI ((((b0).length : Nat) : Int))), (44, vI (((d0 : Nat) : Int))), (53, sl C0 ([a0.Strict] ++ a0.Defaults) D0), (54, vI (((([a0.Strict] ++ a0.Defaults).length : Nat) : Int))), (55, vI (((r0 : Nat) : Int)))] [(2502, Ob.row (C0) (([a0.Strict] ++ a0.Defaults).length) (D0) 60 4 ((cellsOfL [.agg #[vI a0.Strict.Op, vT a0.Strict.Name, sl h0 a0.Strict.Path j0, sl i0 a0.Strict.Kids k0]]) ++ t0)), (700150, Ob.row (A93) ((M0).length) (e1) 9 1 (t1))] [(131, sF RDef e0 g0 b0), (147, rdF RDesc ((cellsOfL [.agg #[vI a0.Strict.Op, vT a0.Strict.Name, sl h0 a0.Strict.Path j0, sl i0 a0.Strict.Kids k0]]) ++ t0) ([a0.Strict] ++ a0.Defaults)), (151, rdF Rep.str (t1) (M0))] a w) ?_ ?_
    ·obtain ⟨u0, Y1, hg⟩ := bind_some hg
     apply wp_block
     apply wQ
     apply wL
     obtain ⟨I2, Q3, M1⟩ := SlR.row1 (s.wd.holds 2502 _ q) (s.ft 147 q) q q Y1
     refine qq s q (y_rowIndex (sz := 4) (i := r0) s q q u58 q M1 q I2) fun a s => ?_
     have E3 := (s.ft 147 q).at_ _ _ Y1
     obtain ⟨G1, K1, H1, L1, r2, k4, F3, G3⟩ := RDesc.open E3
     refine S s<|nsw 154 F3<|nsw 155 G3<|yw q (y_loadRow (kk := 2502) (vs := [vI u0.Op, vT u0.Name, sl G1 u0.Path K1, sl H1 u0.Kids L1]) · q q M1 r2 u60 q q) fun a s => ?_
     refine l_seq q (l_alloc (zs := [vI 0, vT ([]), nS, nS]) s 2702 q q q q fun I3 a w hb hK s => ?_)
     refine l_seq q (l_store (n := 4) (cs' := [vI u0.Op, vT u0.Name, sl G1 u0.Path K1, sl H1 u0.Kids L1]) s 2702 q q q q q q q q ?_); clear s; intro w hK s; clear hK
     obtain ⟨l0, s3, hg⟩ := bind_some hg
     refine S s<|nw<|sw<|lw<|yw q (y_loadAll (kk := 2702) · q q u60 q q) fun a s => ?_
     refine lC s q func66 (c_desc_Names n _ _ s.lt _ _ _ _ _ (by omega) (s.ft 154 q) (s.ft 155 q) _ s3) fun q4 a w hK hp s => ?_
     obtain ⟨H3, V3, F1, J1, rfl, B3, C3⟩ := hp
     obtain ⟨O1, hg⟩ := chk_some hg
     refine S s<|nsw 158 B3<|nsw 159 C3<|mw q<|yw q (y_extract · q q)<|yw q (y_extract · q q)<|aw q<|aw q<|nw<|sw<|lw<|mw q<|mw q fun a s => ?_
     obtain ⟨C1, v3, Y2⟩ := SlR.src (s.ft 158 q)
     replace s := s.add 162 (rdF Rep.str C1 (l0.1)) Y2
     refine l_seq q (l_append (sz := 1) (by_ := 16) (N := (q0 ++ l0.1).length) s 700148 q q q u25 q q q q q v3 (by rw [List.length_append]; try rfl) q (rmA O1 q) (rmB O1) q fun d2 k2 a w hA hK s => ?_)
     replace s := s.add 163 (rdF Rep.str (H0 ++ C1) (q0 ++ l0.1)) (RdAll.append (s.ft 149 q) (s.ft 162 q))
     refine S s<|aw q<|nw<|vw<|mw q<|yw q (lS · q u25)<|mw q<|nw<|bw<|alw 165 163 q fun a s => ?_
     replace s := s.pk [(2502, 2502), (2702, 2702), (700164, 700148)] (by decide)
     refine c_loop (σ := Nat) (fun m5 a w => ∃ (m0 : (List (List UInt8))) (y0 : Nat) (A114 : Option Addr) (Z0 : Nat) (F0 : List Value), module_uses_L4 n c2 l0 m5 m0 y0 = some r ∧ St (cx f38 M w0) [(3, sl A114 m0 Z0), (42, sl e0 b0 g0), (43, vI ((((b0).length : Nat) : Int))), (44, vI (((d0 : Nat) : Int))), (53, sl C0 ([a0.Strict] ++ a0.Defaults) D0), (54, vI (((([a0.Strict] ++ a0.Defaults).length : Nat) : Int))), (55, vI (((r0 : Nat) : Int))), (67, sl F1 l0.2 J1), (68, vI ((((l0.2).length : Nat) : Int))), (69, vI (((y0 : Nat) : Int)))] [(2502, Ob.row (C0) (([a0.Strict] ++ a0.Defaults).length) (D0) 60 4 ((cellsOfL [.agg #[vI a0.Strict.Op, vT a0.Strict.Name, sl h0 a0.Strict.Path j0, sl i0 a0.Strict.Kids k0]]) ++ t0)), (700164, Ob.row (A114) ((m0).length) (Z0) 9 1 (F0))] [(131, sF RDef e0 g0 b0), (147, rdF RDesc ((cellsOfL [.agg #[vI a0.Strict.Op, vT a0.Strict.Name, sl h0 a0.Strict.Path j0, sl i0 a0.Strict.Kids k0]]) ++ t0) ([a0.Strict] ++ a0.Defaults)), (159, sF Rep.str F1 J1 l0.2), (165, rdF Rep.str (F0) (m0))] a w) (fun m5 => m5) n ⟨(q0 ++ l0.1), (0), (d2), (k2), (H0 ++ C1), hg, (s.sb q q q)⟩ ?_
     clear s a; rintro m5 a w ⟨m0, y0, A114, Z0, F0, hg, s⟩
     rcases m5 with _ | m5
     ·rw [module_uses_L4] at hg; cases hg
     rw [module_uses_L4] at hg
     refine S s<|vw<|yw q (y_lssN (i := y0) (j := ((l0.2).length)) · q q)<|nw<|sw fun a s => c_dec s q (fun w1 => ?_) (fun w1 => ?_)
     ·replace hg := br_t hg w1
      have X3 := SlR.mx (s.ft 159 q)
      obtain ⟨B0, T1, hg⟩ := bind_some hg
      refine S s<|kw<|pw<|sw<|bw<|sw<|lw fun a s => ?_
      obtain ⟨l4, E2, P2, T2, R3, z2, v2⟩ := SlR.elemX (s.ft 159 q) T1
      refine qq s q (eL 1 y0 s u25 E2 (lt_of_get T1) q) fun a s => ?_
      obtain ⟨rfl, d4⟩ := z2
      obtain ⟨J2, hg⟩ := chk_some hg
      obtain ⟨P1, hg⟩ := chk_some hg
      refine S s<|yw q (lP · P2 T2 (v2 0 _ q) u9 q)<|aw q<|nw<|lw<|mw q<|mw q<|yw q (y_concat · q q J2) fun a s => ?_
      refine l_seq q (l_buildDense (sz := 1) s 3303 q q q u25 q q q q q q q fun J3 a w s2 hK s => ?_)
      clear s2
      replace s := s.add 168 (rdF Rep.str (cellsOfL [vT ([64] ++ B0)]) ([[64] ++ B0])) (RdAll.cons (by exact ⟨q, (by rw [List.length_append]; omega)⟩) (rN))
      have w3 := row_src (s.wd.holds 3303 _ q) (RdAll.one (s.ft 168 q))
      refine l_seq q (l_append (sz := 1) (by_ := 16) (N := (m0 ++ [[64] ++ B0]).length) s 700164 q q q u25 q q q q q w3 (by simp only [List.length_append]; try rfl) q (rmA P1 q) (rmB P1) q fun e2 l2 a w hA hK s => ?_)
      replace s := s.add 169 (rdF Rep.str (F0 ++ (cellsOfL [vT ([64] ++ B0)])) (m0 ++ [[64] ++ B0])) (RdAll.append (s.ft 165 q) (s.ft 168 q))
      refine asg s q q fun a s => ?_
      apply wO
      refine p_inN ?_
      refine S s<|pw<|lw<|yw q (y_addN (i := y0) (j := 1) · q q (in64.2 (by omega)))<|mw q<|nw<|alw 165 169 q fun a s => ?_
      exact ⟨m5, Nat.lt_succ_self _, ⟨(m0 ++ [[64] ++ B0]), (y0 + 1), (e2), (l2), (F0 ++ (cellsOfL [vT ([64] ++ B0)])), hg, (s.sb q q q)⟩⟩
     replace hg := br_f hg w1
     apply wp_exit
     refine p_then ?_
     refine p_then ?_
     refine p_in ?_
     refine p_inN ?_
     apply pN
     replace s := s.al 151 165 q
     replace s := s.pk [(2502, 2502), (700150, 700164)] (by decide)
     exact ⟨(m0), (A114), (Z0), (F0), hg, (s.sb q q q)⟩
    clear s a; rintro a w ⟨M0, A93, e1, t1, hg, s⟩
    subst O2
    refine S s<|lw<|yw q (y_addN (i := r0) (j := 1) · q q (in64.2 (by omega)))<|mw q<|nw<|alw 149 151 q fun a s => ?_
    replace s := s.pk [(2502, 2502), (700148, 700150)] (by decide)
    exact ⟨m4, Nat.lt_succ_self _, ⟨(M0), (r0 + 1), (A93), (e1), (t1), hg, (s.sb q q q)⟩⟩
   replace hg := br_f hg B1
   apply wp_exit
   refine p_then ?_
   refine p_then ?_
   refine p_in ?_
   refine p_inN ?_
   apply pN
   replace s := s.al 135 149 q
   replace s := s.pk [(2502, 2502), (700134, 700148)] (by decide)
   exact ⟨(q0), (A85), (d1), (H0), hg, (s.sb q q q)⟩
  clear s a; rintro a w ⟨L0, A67, c1, r1, hg, s⟩
  subst M2
  refine S s<|lw<|yw q (y_addN (i := d0) (j := 1) · q q (in64.2 (by omega)))<|mw q<|nw<|alw 133 135 q fun a s => ?_
  replace s := s.pk [(700132, 700134)] (by decide)
  exact ⟨m3, Nat.lt_succ_self _, ⟨(L0), (d0 + 1), (A67), (c1), (r1), hg, (s.sb q q q)⟩⟩
 replace hg := br_f hg z1
 apply wp_exit
 refine p_then ?_
 refine p_then ?_
 refine p_in ?_
 refine S s<|pw<|vw<|mw q<|aw q<|nw fun a s => ?_
 apply wp_ret
 obtain rfl := si hg
 refine fin1 (fn := Tryz.f38) s q (r_tmp s q) ?_
 exact ⟨(A59), (O0), q, (s.rowOut (R := Rep.str) (kk := 700132) q q (s.ft 133 q))⟩
set_option maxHeartbeats 1000000 in
theorem c_module_Link_1 (n : Nat) (M : Bs) (w0 : World) (hM : ∀ b, M b → b < w0.heap.size) (x_ : (List UInt8)) (i0 : (x_).length ≤ 9223372036854775807) (c0 : Nat) (a0 : (List (List UInt8))) (b0 : Option Addr) (d0 : Nat) (g0 : sR Rep.str M w0 b0 d0 a0) (e0 : BoxR c0 [.slice (b0) ((a0).length) (d0)] 25 M w0) (r : Bool) (hg : module_Link_1 n x_ a0 = some r) :
    Calls Tryz.prog 39 [vT x_, .pointer (some ⟨c0, 0, none⟩)].toArray w0 (Ret noB w0 fun v w => v = .bool (r)) := by
 unfold module_Link_1 at hg
 refine enter M noB func39 q q hM ?_
 intro a s
 replace s := s.es 101 g0
 replace s := s.ebx 102 e0
 obtain ⟨r1, h0, hg⟩ := bind_some hg
 refine S s<|vw<|aw q<|nw<|sw<|lw<|yw q (fun s => y_loadF1 s q (s.ft 102 q) q u25 q)<|mw q fun a s => ?_
 refine lV s q func40 (c_slices_Contains_string n _ _ s.lt _ _ _ (s.ft 101 q) _ (by omega) _ h0) fun a w hK s => ?_
 refine S s<|yw q (y_not · q)<|aw q<|nw fun a s => ?_
 apply wp_ret
 obtain rfl := si hg
 exact fin1 (fn := Tryz.f39) s q (r_tmp s q) q
set_option maxHeartbeats 1000000 in
theorem c_r21_sameTypes (n : Nat) (M : Bs) (w0 : World) (hM : ∀ b, M b → b < w0.heap.size) (t_ : (List TypeDecl)) (g0 : Option Addr) (i0 : Nat) (J2 : sR RTypeDecl M w0 g0 i0 t_) (t_' : (List TypeDecl)) (h0 : Option Addr) (j0 : Nat) (K2 : sR RTypeDecl M w0 h0 j0 t_') (r : Bool) (hg : r21_sameTypes n t_ t_' = some r) :
    Calls Tryz.prog 48 [sl g0 t_ i0, sl h0 t_' j0].toArray w0 (Ret noB w0 fun v w => v = .bool (r)) := by
 unfold r21_sameTypes at hg
 refine enter M noB func48 q q hM ?_
 intro a s
 let F : Al Fact := [(101, sF RTypeDecl g0 i0 t_), (102, sF RTypeDecl h0 j0 (t_'))]
 refine S s<|esw 101 J2<|esw 102 K2<|vw<|aw q<|nw<|sw<|vw<|mw q<|yw q (lS · q u32)<|mw q<|yw q (lS · q u32)<|yw q (y_neqN (i := ((t_).length)) (j := ((t_').length)) · q q)<|nw fun a s => c_dec s q (fun q0 => ?_) (fun q0 => ?_)
 ·replace hg := br_t hg q0
  refine S s<|vw<|aw q<|nw fun a s => ?_
  apply wp_ret
  refine p_thenR ?_
  obtain rfl := si hg
  exact fin1 (fn := Tryz.f48) s q (r_tmp s q) q
 replace hg := br_f hg q0
 refine S s<|kw<|pw<|sw<|vw<|aw q<|nw<|bw fun a s => ?_
 refine c_loop (σ := Nat) (fun m1 a w => ∃ (a0 : Nat), r21_sameTypes_L0 n t_ t_' m1 a0 = some r ∧ St (cx f48 M w0) [(0, sl g0 t_ i0), (1, sl h0 (t_') j0), (5, vI (((a0 : Nat) : Int)))] [] F a w) (fun m1 => m1) n ⟨(0), hg, (s.sb q q q)⟩ ?_
 clear s a; rintro m1 a w ⟨a0, hg, s⟩
 rcases m1 with _ | m1
 ·rw [r21_sameTypes_L0] at hg; cases hg
 rw [r21_sameTypes_L0] at hg
 refine S s<|sw<|vw<|mw q<|mw q<|yw q (lS · q u32)<|yw q (y_lssN (i := a0) (j := ((t_).length)) · q q)<|nw fun a s => c_dec s q (fun r0 => ?_) (fun r0 => ?_)
 ·replace hg := br_t hg r0
  have J5 := SlR.mx (s.ft 101 q)
  apply wp_skip
  apply pN
  apply wQ
  obtain ⟨k5, hg, M1⟩ := jn_some hg
  refine c_post (fun a w => k5 = some r ∧ St (cx f48 M w0) [(0, sl g0 t_ i0), (1, sl h0 (t_') j0), (5, vI (((a0 : Nat) : Int)))] [] F a w) ?_ ?_
  ·apply wp_block
   apply wQ
   apply wQ
   obtain ⟨k6, hg, O1⟩ := jn_some hg
   refine c_post (fun a w => ∃ (v0 : Bool), k6 v0 = some r ∧ St (cx f48 M w0) [(0, sl g0 t_ i0), (1, sl h0 (t_') j0), (5, vI (((a0 : Nat) : Int))), (57, .bool (v0))] [] F a w) ?_ ?_
   ·obtain ⟨x9, c0, hg⟩ := bind_some hg
    obtain ⟨d0, b0, hg⟩ := bind_some hg
    rcases Decidable.em ((x9.Name : List UInt8) ≠ d0.Name) with k0 | k0
    ·have o0 := decide_eq_true k0
     replace hg := br_t hg k0
     refine d_plan s [] [(0, some 0), (1, some 0), (2, some 0), (3, some 0), (4, some 0), (5, some 0), (6, some 0), (7, some 0), (8, some 0), (9, some 0), (10, some 0), (11, some 0), (12, some 0), (13, some 0), (14, some 0), (15, some 0), (16, some 0), (17, some 0), (18, some 0), (19, some 0), (20, some 0), (21, some 0), (22, some 0), (23, some 0), (24, some 0), (25, some 0), (26, some 0), (27, some 0), (28, some 0), (29, some 0), (30, some 0), (31, some 0), (32, some 0), (33, some 0), (34, some 0), (35, some 0), (36, some 0), (37, some 0), (38, some 0), (39, some 0)] q (by kernel_rfl) (by kernel_rfl) q ?_; clear s; intro wr hZ s; have hR := s.wd
     refine S s<|qw hR q (mo · q)<|qw hR q (mo · q) fun a s => ?_
     obtain ⟨w6, F1, P1, n2, n5, i1, K0⟩ := SlR.elemX (s.ft 101 q) c0
     refine S s<|qw hR q (eL 3 a0 · u32 F1 (lt_of_get c0) q)<|qw hR q (pF 0 · u49 q) fun a s => ?_
     obtain ⟨G3, w4, H3, x4, rfl, X5, L2, M2⟩ := RTypeDecl.open i1
     refine S s<|nsw 107 L2<|nsw 108 M2<|qw hR q (lP · P1 n2 (K0 0 _ q) u9 q)<|qw hR q (mo · q)<|qw hR q (mo · q) fun a s => ?_
     obtain ⟨x6, G1, Q1, o2, o5, j1, L0⟩ := SlR.elemX (s.ft 102 q) b0
     refine S s<|qw hR q (eL 3 a0 · u32 G1 (lt_of_get b0) q)<|qw hR q (pF 0 · u49 q) fun a s => ?_
     obtain ⟨I3, y4, J3, z4, rfl, Y5, O2, P2⟩ := RTypeDecl.open j1
     refine S s<|nsw 109 O2<|nsw 110 P2<|qw hR q (lP · Q1 o2 (L0 0 _ q) u9 q)<|qw hR q (fun s => yl_b (y_sne s q q) o0)<|qw hR q (mo · q)<|qpw hR q<|qpw hR q<|qpw hR q<|qpw hR q<|qpw hR q<|qpw hR q<|qpw hR q<|qpw hR q<|qpw hR q<|qpw hR q<|qpw hR q<|qpw hR q<|qw hR q (pT · q q)<|qw hR q (mo · q)<|qpw hR q<|qpw hR q<|qpw hR q<|qpw hR q<|qpw hR q<|qpw hR q<|qpw hR q<|qpw hR q<|qpw hR q<|qpw hR q<|qpw hR q<|qpw hR q<|qpw hR q<|qw hR q (pT · q q) fun a s => ?_
     clear hR hZ
     apply pN
     exact ⟨(true), hg, (s.sb q q q)⟩
    have o0 := decide_eq_false k0
    replace hg := br_f hg k0
    obtain ⟨C3, G0, hg⟩ := bind_some hg
    rcases Bool.eq_false_or_eq_true (!(C3)) with l0 | l0
    ·replace hg := br_t hg l0
     refine d_steps s [] q ?_; clear s; intro wr hZ s; have hR := s.wd; have hE := Ext.init hR 0
     refine S s<|nqw 0 0 hR q (mo · q)<|nqw 1 0 hR q (mo · q) fun a s => ?_
     obtain ⟨y6, x0, L5⟩ := SlR.elemX (s.ft 101 q) c0
     refine S s<|nqw 2 0 hR q (eL 3 a0 · u32 x0 (lt_of_get c0) q)<|nqw 3 0 hR q (pF 0 · u49 q) fun a s => ?_
     obtain ⟨R1, p2, p5, k1, M0⟩ := (SlR.again (s.ft 101 q) c0 x0)
     obtain ⟨K3, B4, L3, C4, rfl, Z5, Q2, R2⟩ := RTypeDecl.open k1
     refine S s<|nsw 115 Q2<|nsw 116 R2<|nqw 4 0 hR q (lP · R1 p2 (M0 0 _ q) u9 q)<|nqw 5 0 hR q (mo · q)<|nqw 6 0 hR q (mo · q) fun a s => ?_
     obtain ⟨z6, y0, M5⟩ := SlR.elemX (s.ft 102 q) b0
     refine S s<|nqw 7 0 hR q (eL 3 a0 · u32 y0 (lt_of_get b0) q)<|nqw 8 0 hR q (pF 0 · u49 q) fun a s => ?_
     obtain ⟨S1, q2, q5, l1, O0⟩ := (SlR.again (s.ft 102 q) b0 y0)
     obtain ⟨M3, D4, O3, E4, rfl, a6, S2, T2⟩ := RTypeDecl.open l1
     refine S s<|nsw 117 S2<|nsw 118 T2<|nqw 9 0 hR q (lP · S1 q2 (O0 0 _ q) u9 q)<|nqw 10 0 hR q (fun s => yl_b (y_sne s q q) o0)<|nqw 11 0 hR q (mo · q)<|nqw 12 0 hR q (mo · q)<|nqw 13 0 hR q (mo · q) fun a s => ?_
     obtain ⟨B6, z0, O5⟩ := SlR.elemX (s.ft 101 q) c0
     refine S s<|nqw 14 0 hR q (eL 3 a0 · u32 z0 (lt_of_get c0) q)<|nqw 15 0 hR q (pF 1 · u49 q) fun a s => ?_
     obtain ⟨T1, r2, r5, n1, P0⟩ := (SlR.again (s.ft 101 q) c0 z0)
     obtain ⟨P3, F4, Q3, G4, rfl, b6, U2, V2⟩ := RTypeDecl.open n1
     refine S s<|nsw 119 U2<|nsw 120 V2<|nqw 16 0 hR q (lP · T1 r2 (P0 1 _ q) u25 q)<|nqw 17 0 hR q (mo · q)<|nqw 18 0 hR q (mo · q) fun a s => ?_
     obtain ⟨C6, B0, P5⟩ := SlR.elemX (s.ft 102 q) b0
     refine S s<|nqw 19 0 hR q (eL 3 a0 · u32 B0 (lt_of_get b0) q)<|nqw 20 0 hR q (pF 1 · u49 q) fun a s => ?_
     obtain ⟨U1, s2, s5, o1, Q0⟩ := (SlR.again (s.ft 102 q) b0 B0)
     obtain ⟨R3, H4, S3, I4, rfl, c6, X2, Y2⟩ := RTypeDecl.open o1
     refine S s<|nsw 121 X2<|nsw 122 Y2<|nqw 21 0 hR q (lP · U1 s2 (Q0 1 _ q) u25 q) fun a s => ?_
     refine nC 22 s q q func14 (c_r01_Same n _ _ s.lt _ _ _ (s.ft 119 q) _ _ _ (s.ft 121 q) _ G0) fun P6 a w hK hp s => ?_
     refine gk hE hZ hK fun hE hZ => ?_; clear hK
     obtain rfl := hp
     refine S s<|nzw 23 q (fun s => yl_b (y_not s q) l0)<|nzw 24 q (pO · q q)<|nzw 25 q (mo · q)<|nfw 26 hE q<|nfw 27 hE q<|nfw 28 hE q<|nfw 29 hE q<|nfw 30 hE q<|nfw 31 hE q<|nfw 32 hE q<|npw 33 q<|npw 34 q<|npw 35 q<|npw 36 q<|npw 37 q<|npw 38 q<|nzw 39 q (pT · q q) fun a s => ?_
     refine n_end (by kernel_rfl) ?_; clear hR hZ hE
     apply pN
     exact ⟨(true), hg, (s.sb q q q)⟩
    replace hg := br_n hg l0
    refine d_steps s [] q ?_; clear s; intro wr hZ s; have hR := s.wd; have hE := Ext.init hR 0
    refine S s<|nqw 0 0 hR q (mo · q)<|nqw 1 0 hR q (mo · q) fun a s => ?_
    obtain ⟨D6, C0, Q5⟩ := SlR.elemX (s.ft 101 q) c0
    refine S s<|nqw 2 0 hR q (eL 3 a0 · u32 C0 (lt_of_get c0) q)<|nqw 3 0 hR q (pF 0 · u49 q) fun a s => ?_
    obtain ⟨V1, t2, t5, p1, R0⟩ := (SlR.again (s.ft 101 q) c0 C0)
    obtain ⟨T3, J4, U3, K4, rfl, d6, Z2, a3⟩ := RTypeDecl.open p1
    refine S s<|nsw 127 Z2<|nsw 128 a3<|nqw 4 0 hR q (lP · V1 t2 (R0 0 _ q) u9 q)<|nqw 5 0 hR q (mo · q)<|nqw 6 0 hR q (mo · q) fun a s => ?_
    obtain ⟨E6, D0, R5⟩ := SlR.elemX (s.ft 102 q) b0
    refine S s<|nqw 7 0 hR q (eL 3 a0 · u32 D0 (lt_of_get b0) q)<|nqw 8 0 hR q (pF 0 · u49 q) fun a s => ?_
    obtain ⟨X1, u2, u5, q1, S0⟩ := (SlR.again (s.ft 102 q) b0 D0)
    obtain ⟨V3, L4, X3, M4, rfl, e6, b3, c3⟩ := RTypeDecl.open q1
    refine S s<|nsw 129 b3<|nsw 130 c3<|nqw 9 0 hR q (lP · X1 u2 (S0 0 _ q) u9 q)<|nqw 10 0 hR q (fun s => yl_b (y_sne s q q) o0)<|nqw 11 0 hR q (mo · q)<|nqw 12 0 hR q (mo · q)<|nqw 13 0 hR q (mo · q) fun a s => ?_
    obtain ⟨F6, E0, S5⟩ := SlR.elemX (s.ft 101 q) c0
    refine S s<|nqw 14 0 hR q (eL 3 a0 · u32 E0 (lt_of_get c0) q)<|nqw 15 0 hR q (pF 1 · u49 q) fun a s => ?_
    obtain ⟨Y1, v2, v5, r1, T0⟩ := (SlR.again (s.ft 101 q) c0 E0)
    obtain ⟨Y3, O4, Z3, P4, rfl, g6, d3, e3⟩ := RTypeDecl.open r1
    refine S s<|nsw 131 d3<|nsw 132 e3<|nqw 16 0 hR q (lP · Y1 v2 (T0 1 _ q) u25 q)<|nqw 17 0 hR q (mo · q)<|nqw 18 0 hR q (mo · q) fun a s => ?_
    obtain ⟨G6, F0, T5⟩ := SlR.elemX (s.ft 102 q) b0
    refine S s<|nqw 19 0 hR q (eL 3 a0 · u32 F0 (lt_of_get b0) q)<|nqw 20 0 hR q (pF 1 · u49 q) fun a s => ?_
    obtain ⟨Z1, w2, w5, s1, U0⟩ := (SlR.again (s.ft 102 q) b0 F0)
    obtain ⟨a4, Q4, b4, R4, rfl, h6, g3, h3⟩ := RTypeDecl.open s1
    refine S s<|nsw 133 g3<|nsw 134 h3<|nqw 21 0 hR q (lP · Z1 w2 (U0 1 _ q) u25 q) fun a s => ?_
    refine nC 22 s q q func14 (c_r01_Same n _ _ s.lt _ _ _ (s.ft 131 q) _ _ _ (s.ft 133 q) _ G0) fun Q6 a w hK hp s => ?_
    refine gk hE hZ hK fun hE hZ => ?_; clear hK
    obtain rfl := hp
    refine S s<|nzw 23 q (fun s => yl_b (y_not s q) l0)<|nzw 24 q (pO · q q)<|nzw 25 q (mo · q)<|new 26 hE q (fun w' s => y_move s q)<|new 27 hE q (fun w' s => y_move s q) fun a s => ?_
    obtain ⟨H6, m0, U5⟩ := SlR.elemX (s.ft 101 q) c0
    refine S s<|new 28 hE q (fun w' s => y_elem (sz := 3) (i := a0) s q q u32 q m0 q (lt_of_get c0))<|new 29 hE q (fun w' s => y_ptrField (o' := 2) s q u49 q q q)<|new 32 hE q (fun w' s => y_move s q)<|new 33 hE q (fun w' s => y_move s q) fun a s => ?_
    obtain ⟨I6, n0, V5⟩ := SlR.elemX (s.ft 102 q) b0
    refine S s<|new 34 hE q (fun w' s => y_elem (sz := 3) (i := a0) s q q u32 q n0 q (lt_of_get b0))<|new 35 hE q (fun w' s => y_ptrField (o' := 2) s q u49 q q q) fun a s => ?_
    refine n_2 30 36 s (by kernel_rfl) q ⟨_, _, _, q, q, q, q⟩ q ⟨_, _, _, q, q, q, q⟩ ?_ ?_
    ·obtain ⟨a2, x2, x5, t1, V0⟩ := (SlR.again (s.ft 101 q) c0 m0)
     obtain ⟨c4, S4, d4, T4, rfl, i6, i3, j3⟩ := RTypeDecl.open t1
     replace s := s.ns 135 i3 |>.ns 136 j3
     refine l_quiet s q q (lP s a2 x2 (V0 2 _ q) u47 q) fun a s => ?_; refine ⟨fun g _ h => h, ?_⟩
     refine n_2 31 36 s (by kernel_rfl) q ⟨_, _, _, q, q, q, q⟩ q ⟨_, _, _, q, q, q, q⟩ ?_ ?_
     ·refine l_quiet s q q (lS s q u47) fun a s => ?_; refine ⟨fun g _ h => h, ?_⟩
      obtain ⟨b2, y2, y5, u1, X0⟩ := (SlR.again (s.ft 102 q) b0 n0)
      obtain ⟨e4, U4, g4, V4, rfl, j6, k3, l3⟩ := RTypeDecl.open u1
      refine S s<|nsw 137 k3<|nsw 138 l3<|nzw 36 q (lP · b2 y2 (X0 2 _ q) u47 q)<|nzw 37 q (lS · q u47)<|nzw 38 q (y_neqN (i := ((x9.Feats).length)) (j := ((d0.Feats).length)) · q q)<|nzw 39 q (pO · q q) fun a s => ?_
      refine n_end (by kernel_rfl) ?_; clear hR hZ hE
      apply pN
      exact ⟨(decide (((x9.Feats).length) ≠ ((d0.Feats).length))), hg, (s.sb q q q)⟩
     ·obtain ⟨c2, z2, z5, v1, Y0⟩ := (SlR.again (s.ft 102 q) b0 n0)
      obtain ⟨h4, X4, i4, Y4, rfl, l6, m3, n3⟩ := RTypeDecl.open v1
      replace s := s.ns 139 m3 |>.ns 140 n3
      refine l_quiet s q q (lP s c2 z2 (Y0 2 _ q) u47 q) fun a s => ?_; refine ⟨fun g _ h => h, ?_⟩
      refine n_2 31 37 s (by kernel_rfl) q ⟨_, _, _, q, q, q, q⟩ q ⟨_, _, _, q, q, q, q⟩ ?_ ?_
      ·refine l_quiet s q q (lS s q u47) fun a s => ?_; refine ⟨fun g _ h => h, ?_⟩
       refine S s<|nzw 37 q (lS · q u47)<|nzw 38 q (y_neqN (i := ((x9.Feats).length)) (j := ((d0.Feats).length)) · q q)<|nzw 39 q (pO · q q) fun a s => ?_
       refine n_end (by kernel_rfl) ?_; clear hR hZ hE
       apply pN
       exact ⟨(decide (((x9.Feats).length) ≠ ((d0.Feats).length))), hg, (s.sb q q q)⟩
      ·refine l_quiet s q q (lS s q u47) fun a s => ?_; refine ⟨fun g _ h => h, ?_⟩
       refine S s<|nzw 31 q (lS · q u47)<|nzw 38 q (y_neqN (i := ((x9.Feats).length)) (j := ((d0.Feats).length)) · q q)<|nzw 39 q (pO · q q) fun a s => ?_
       refine n_end (by kernel_rfl) ?_; clear hR hZ hE
       apply pN
       exact ⟨(decide (((x9.Feats).length) ≠ ((d0.Feats).length))), hg, (s.sb q q q)⟩
    ·obtain ⟨d2, B2, B5, w1, Z0⟩ := (SlR.again (s.ft 102 q) b0 n0)
     obtain ⟨j4, Z4, k4, a5, rfl, m6, o3, p3⟩ := RTypeDecl.open w1
     replace s := s.ns 141 o3 |>.ns 142 p3
     refine l_quiet s q q (lP s d2 B2 (Z0 2 _ q) u47 q) fun a s => ?_; refine ⟨fun g _ h => h, ?_⟩
     refine n_2 30 37 s (by kernel_rfl) q ⟨_, _, _, q, q, q, q⟩ q ⟨_, _, _, q, q, q, q⟩ ?_ ?_
     ·obtain ⟨e2, C2, C5, x1, a1⟩ := (SlR.again (s.ft 101 q) c0 m0)
      obtain ⟨l4, b5, m4, c5, rfl, n6, q3, r3⟩ := RTypeDecl.open x1
      replace s := s.ns 143 q3 |>.ns 144 r3
      refine l_quiet s q q (lP s e2 C2 (a1 2 _ q) u47 q) fun a s => ?_; refine ⟨fun g _ h => h, ?_⟩
      refine n_2 31 37 s (by kernel_rfl) q ⟨_, _, _, q, q, q, q⟩ q ⟨_, _, _, q, q, q, q⟩ ?_ ?_
      ·refine l_quiet s q q (lS s q u47) fun a s => ?_; refine ⟨fun g _ h => h, ?_⟩
       refine S s<|nzw 37 q (lS · q u47)<|nzw 38 q (y_neqN (i := ((x9.Feats).length)) (j := ((d0.Feats).length)) · q q)<|nzw 39 q (pO · q q) fun a s => ?_
       refine n_end (by kernel_rfl) ?_; clear hR hZ hE
       apply pN
       exact ⟨(decide (((x9.Feats).length) ≠ ((d0.Feats).length))), hg, (s.sb q q q)⟩
      ·refine l_quiet s q q (lS s q u47) fun a s => ?_; refine ⟨fun g _ h => h, ?_⟩
       refine S s<|nzw 31 q (lS · q u47)<|nzw 38 q (y_neqN (i := ((x9.Feats).length)) (j := ((d0.Feats).length)) · q q)<|nzw 39 q (pO · q q) fun a s => ?_
       refine n_end (by kernel_rfl) ?_; clear hR hZ hE
       apply pN
       exact ⟨(decide (((x9.Feats).length) ≠ ((d0.Feats).length))), hg, (s.sb q q q)⟩
     ·refine l_quiet s q q (lS s q u47) fun a s => ?_; refine ⟨fun g _ h => h, ?_⟩
      obtain ⟨g2, D2, D5, y1, b1⟩ := (SlR.again (s.ft 101 q) c0 m0)
      obtain ⟨n4, d5, o4, e5, rfl, o6, s3, t3⟩ := RTypeDecl.open y1
      refine S s<|nsw 145 s3<|nsw 146 t3<|nzw 30 q (lP · g2 D2 (b1 2 _ q) u47 q)<|nzw 31 q (lS · q u47)<|nzw 38 q (y_neqN (i := ((x9.Feats).length)) (j := ((d0.Feats).length)) · q q)<|nzw 39 q (pO · q q) fun a s => ?_
      refine n_end (by kernel_rfl) ?_; clear hR hZ hE
      apply pN
      exact ⟨(decide (((x9.Feats).length) ≠ ((d0.Feats).length))), hg, (s.sb q q q)⟩
   clear s a; rintro a w ⟨v0, hg, s⟩
   subst O1
   refine c_cond s q (fun s0 => ?_) (fun s0 => ?_)
   ·replace hg := br_t hg s0
    refine S s<|vw<|aw q<|nw fun a s => ?_
    apply wp_ret
    refine p_thenR ?_
    refine p_inR ?_
    refine p_thenR ?_
    refine p_thenR ?_
    refine p_inR ?_
    refine p_thenR ?_
    obtain rfl := si hg
    exact fin1 (fn := Tryz.f48) s q (r_tmp s q) q
   replace hg := br_n hg s0
   refine S s<|kw<|pw<|vw<|aw q<|nw<|bw fun a s => ?_
   refine c_loop (σ := Nat) (fun m2 a w => ∃ (e0 : Nat), r21_sameTypes_L1 n t_ t_' a0 k5 m2 e0 = some r ∧ St (cx f48 M w0) [(0, sl g0 t_ i0), (1, sl h0 (t_') j0), (5, vI (((a0 : Nat) : Int))), (6, vI (((e0 : Nat) : Int)))] [] F a w) (fun m2 => m2) n ⟨(0), hg, (s.sb q q q)⟩ ?_
   clear s a; rintro m2 a w ⟨e0, hg, s⟩
   rcases m2 with _ | m2
   ·rw [r21_sameTypes_L1] at hg; cases hg
   rw [r21_sameTypes_L1] at hg
   obtain ⟨D3, p0, hg⟩ := bind_some hg
   refine S s<|sw<|sw<|lw<|mw q<|mw q<|mw q fun a s => ?_
   obtain ⟨J6, H1, h2, E2, E5, z1, c1⟩ := SlR.elemX (s.ft 101 q) p0
   refine S s<|yw q (eL 3 a0 · u32 H1 (lt_of_get p0) q)<|yw q (pF 2 · u49 q) fun a s => ?_
   obtain ⟨p4, g5, q4, h5, rfl, p6, v3, w3⟩ := RTypeDecl.open z1
   refine S s<|nsw 149 v3<|nsw 150 w3<|yw q (lP · h2 E2 (c1 2 _ q) u47 q)<|yw q (lS · q u47)<|yw q (y_lssN (i := e0) (j := ((D3.Feats).length)) · q q)<|nw fun a s => c_dec s q (fun t0 => ?_) (fun t0 => ?_)
   ·replace hg := br_t hg t0
    have K5 := SlR.mx (s.ft 150 q)
    obtain ⟨E3, H0, hg⟩ := bind_some hg
    obtain ⟨R6, I0, hg⟩ := bind_some hg
    obtain ⟨F3, J0, hg⟩ := bind_some hg
    refine S s<|kw<|pw<|sw<|bw<|sw fun a s => ?_
    refine d_plan s [] [(0, some 0), (1, some 0), (2, some 0), (3, some 0), (4, some 0), (5, some 0), (6, some 0), (7, some 0), (8, some 0), (9, some 0), (10, some 0), (11, some 0), (12, some 0), (13, some 0), (14, some 0), (15, some 0), (16, some 0)] q (by kernel_rfl) (by kernel_rfl) q ?_; clear s; intro wr hZ s; have hR := s.wd
    refine S s<|qw hR q (mo · q)<|qw hR q (mo · q) fun a s => ?_
    obtain ⟨K6, I1, i2, F2, F5, B1, d1⟩ := SlR.elemX (s.ft 101 q) p0
    refine S s<|qw hR q (eL 3 a0 · u32 I1 (lt_of_get p0) q)<|qw hR q (pF 2 · u49 q) fun a s => ?_
    obtain ⟨r4, i5, s4, j5, rfl, q6, x3, y3⟩ := RTypeDecl.open B1
    refine S s<|nsw 155 x3<|nsw 156 y3<|qw hR q (lP · i2 F2 (d1 2 _ q) u47 q)<|qw hR q (mo · q) fun a s => ?_
    obtain ⟨L6, J1, j2, G2, G5, C1, e1⟩ := SlR.elemX (s.ft 156 q) H0
    refine qt s hR q (eL 2 e0 s u47 J1 (lt_of_get H0) q) fun a s => ?_
    obtain ⟨rfl, r6, s6⟩ := RFeatDecl.open C1
    refine S s<|qw hR q (y_ldp · q j2 G2 (by simpa using e1) u82 q q)<|qw hR q (mo · q)<|qw hR q (mo · q) fun a s => ?_
    obtain ⟨M6, K1, k2, H2, H5, D1, g1⟩ := SlR.elemX (s.ft 102 q) I0
    refine S s<|qw hR q (eL 3 a0 · u32 K1 (lt_of_get I0) q)<|qw hR q (pF 2 · u49 q) fun a s => ?_
    obtain ⟨t4, l5, v4, m5, rfl, t6, z3, B3⟩ := RTypeDecl.open D1
    refine S s<|nsw 157 z3<|nsw 158 B3<|qw hR q (lP · k2 H2 (g1 2 _ q) u47 q)<|qw hR q (mo · q) fun a s => ?_
    obtain ⟨O6, L1, l2, I2, I5, E1, h1⟩ := SlR.elemX (s.ft 158 q) J0
    refine qt s hR q (eL 2 e0 s u47 L1 (lt_of_get J0) q) fun a s => ?_
    obtain ⟨rfl, u6, v6⟩ := RFeatDecl.open E1
    refine S s<|qw hR q (y_ldp · q l2 I2 (by simpa using h1) u82 q q)<|qw hR q (y_neqS · q q (by kernel_rfl) (fun w' => eqFeatDecl E3 F3 w')) fun a s => ?_
    clear hR hZ
    apply pN
    refine c_not s q (fun u0 => ?_) (fun u0 => ?_)
    ·replace hg := br_f hg u0
     refine S s<|vw<|aw q<|nw fun a s => ?_
     apply wp_ret
     refine p_inR ?_
     refine p_thenR ?_
     refine p_thenR ?_
     refine p_inR ?_
     refine p_inR ?_
     refine p_thenR ?_
     refine p_thenR ?_
     refine p_inR ?_
     refine p_thenR ?_
     obtain rfl := si hg
     exact fin1 (fn := Tryz.f48) s q (r_tmp s q) q
    replace hg := br_t hg u0
    apply wp_skip
    refine p_inN ?_
    refine S s<|pw<|lw<|mw q<|yw q (y_addN (i := e0) (j := 1) · q q (in64.2 (by omega)))<|aw q<|nw fun a s => ?_
    exact ⟨m2, Nat.lt_succ_self _, ⟨(e0 + 1), hg, (s.sb q q q)⟩⟩
   replace hg := br_f hg t0
   apply wp_exit
   refine p_then ?_
   refine p_then ?_
   refine p_in ?_
   refine p_inN ?_
   apply pN
   exact ⟨hg, (s.sb q q q)⟩
  clear s a; rintro a w ⟨hg, s⟩
  subst M1
  refine S s<|lw<|mw q<|yw q (y_addN (i := a0) (j := 1) · q q (in64.2 (by omega)))<|aw q<|nw fun a s => ?_
  exact ⟨m1, Nat.lt_succ_self _, ⟨(a0 + 1), hg, (s.sb q q q)⟩⟩
 replace hg := br_f hg r0
 apply wp_exit
 refine p_then ?_
 refine p_then ?_
 refine p_in ?_
 refine S s<|pw<|vw<|aw q<|nw fun a s => ?_
 apply wp_ret
 obtain rfl := si hg
 exact fin1 (fn := Tryz.f48) s q (r_tmp s q) q
set_option maxHeartbeats 1000000 in
theorem c_r19_SameDescs (n : Nat) (via_ : Desc → Desc → Option Bool) (c_via : ∀ (M : Bs) (w0 : World) (hM : ∀ b, M b → b < w0.heap.size) (a_ : Desc) (j0 : Option Addr) (n0 : Nat) (k0 : Option Addr) (o0 : Nat) (d1 : (a_.Name).length ≤ 9223372036854775807) (Z0 : sR Rep.str M w0 j0 n0 a_.Path) (a1 : sR RDesc M w0 k0 o0 a_.Kids) (b_ : Desc) (l0 : Option Addr) (p0 : Nat) (m0 : Option Addr) (q0 : Nat) (e1 : (b_.Name).length ≤ 9223372036854775807) (b1 : sR Rep.str M w0 l0 p0 b_.Path) (c1 : sR RDesc M w0 m0 q0 b_.Kids) (r : Bool) (hg : via_ a_ b_ = some r), Calls Tryz.prog 70 [.agg #[.int .i64 (a_.Op), .string (bs (a_.Name)), .slice (j0) ((a_.Path).length) (n0), .slice (k0) ((a_.Kids).length) (o0)], .agg #[.int .i64 (b_.Op), .string (bs (b_.Name)), .slice (l0) ((b_.Path).length) (p0), .slice (m0) ((b_.Kids).length) (q0)]].toArray w0 (Ret noB w0 fun v w => v = .bool (r))) (M : Bs) (w0 : World) (hM : ∀ b, M b → b < w0.heap.size) (a_ : (List Desc)) (b0 : Option Addr) (d0 : Nat) (F0 : sR RDesc M w0 b0 d0 a_) (b_ : (List Desc)) (c0 : Option Addr) (e0 : Nat) (G0 : sR RDesc M w0 c0 e0 b_) (r : Bool) (hg : r19_SameDescs n via_ a_ b_ = some r) :
    Calls Tryz.prog 71 [sl b0 a_ d0, sl c0 b_ e0].toArray w0 (Ret noB w0 fun v w => v = .bool (r)) := by
 unfold r19_SameDescs at hg
 refine enter M noB func71 q q hM ?_
 intro a s
 refine S s<|esw 101 F0<|esw 102 G0<|vw<|aw q<|nw<|sw<|vw<|mw q<|yw q (lS · q u58)<|mw q<|yw q (lS · q u58)<|yw q (y_neqN (i := ((a_).length)) (j := ((b_).length)) · q q)<|nw fun a s => c_dec s q (fun g0 => ?_) (fun g0 => ?_)
 ·replace hg := br_t hg g0
  refine S s<|vw<|aw q<|nw fun a s => ?_
  apply wp_ret
  refine p_thenR ?_
  obtain rfl := si hg
  exact fin1 (fn := Tryz.f71) s q (r_tmp s q) q
 replace hg := br_f hg g0
 refine S s<|kw<|pw<|sw<|vw<|aw q<|nw<|bw fun a s => ?_
 refine c_loop (σ := Nat) (fun m1 a w => ∃ (a0 : Nat), r19_SameDescs_L0 n a_ b_ via_ m1 a0 = some r ∧ St (cx f71 M w0) [(0, sl b0 a_ d0), (1, sl c0 b_ e0), (5, vI (((a0 : Nat) : Int)))] [] [(101, sF RDesc b0 d0 a_), (102, sF RDesc c0 e0 b_)] a w) (fun m1 => m1) n ⟨(0), hg, (s.sb q q q)⟩ ?_
 clear s a; rintro m1 a w ⟨a0, hg, s⟩
 rcases m1 with _ | m1
 ·rw [r19_SameDescs_L0] at hg; cases hg
 rw [r19_SameDescs_L0] at hg
 refine S s<|sw<|vw<|mw q<|mw q<|yw q (lS · q u58)<|yw q (y_lssN (i := a0) (j := ((a_).length)) · q q)<|nw fun a s => c_dec s q (fun i0 => ?_) (fun i0 => ?_)
 ·replace hg := br_t hg i0
  have Y0 := SlR.mx (s.ft 101 q)
  obtain ⟨x6, r0, hg⟩ := bind_some hg
  obtain ⟨x9, s0, hg⟩ := bind_some hg
  obtain ⟨k1, L0, hg⟩ := bind_some hg
  refine S s<|kw<|pw<|sw<|bw<|sw fun a s => ?_
  refine d_plan s [] [(0, some 0), (1, some 0), (2, some 0), (3, some 0), (4, some 0), (5, some 0), (6, some 0), (7, some 0), (8, none), (9, none)] q (by kernel_rfl) (by kernel_rfl) q ?_; clear s; intro wr hZ s; have hR := s.wd
  refine S s<|qw hR q (mo · q)<|qw hR q (mo · q) fun a s => ?_
  obtain ⟨i1, y0, B0, D0, V0, v0, t0⟩ := SlR.elemX (s.ft 101 q) r0
  refine qt s hR q (eL 4 a0 s u58 y0 (lt_of_get r0) q) fun a s => ?_
  obtain ⟨M0, R0, O0, S0, rfl, g1, H0, I0⟩ := RDesc.open v0
  refine S s<|nsw 107 H0<|nsw 108 I0<|qw hR q (y_ldp · q B0 D0 (by simpa using t0) u60 q q)<|qw hR q (mo · q)<|qw hR q (mo · q) fun a s => ?_
  obtain ⟨j1, z0, C0, E0, X0, x0, u0⟩ := SlR.elemX (s.ft 102 q) s0
  refine qt s hR q (eL 4 a0 s u58 z0 (lt_of_get s0) q) fun a s => ?_
  obtain ⟨P0, T0, Q0, U0, rfl, h1, J0, K0⟩ := RDesc.open x0
  refine S s<|nsw 109 J0<|nsw 110 K0<|qw hR q (y_ldp · q C0 E0 (by simpa using u0) u60 q q) fun a s => ?_
  refine l_take s q q (l_call (cap := []) s q func70 q (by kernel_rfl) q q (c_via _ _ s.lt _ _ _ _ _ (by omega) (s.ft 107 q) (s.ft 108 q) _ _ _ _ _ (by omega) (s.ft 109 q) (s.ft 110 q) _ L0) fun l1 a w hK hp s => ?_)
  refine gz hZ hK fun hZ => ?_; clear hK
  obtain rfl := hp
  refine S s<|tw q (y_not · q) fun a s => ?_
  clear hR hZ
  apply pN
  refine c_cond s q (fun h0 => ?_) (fun h0 => ?_)
  ·replace hg := br_t hg h0
   refine S s<|vw<|aw q<|nw fun a s => ?_
   apply wp_ret
   refine p_inR ?_
   refine p_thenR ?_
   refine p_thenR ?_
   refine p_inR ?_
   refine p_thenR ?_
   obtain rfl := si hg
   exact fin1 (fn := Tryz.f71) s q (r_tmp s q) q
  replace hg := br_n hg h0
  apply wp_skip
  refine p_inN ?_
  refine S s<|pw<|lw<|mw q<|yw q (y_addN (i := a0) (j := 1) · q q (in64.2 (by omega)))<|aw q<|nw fun a s => ?_
  exact ⟨m1, Nat.lt_succ_self _, ⟨(a0 + 1), hg, (s.sb q q q)⟩⟩
 replace hg := br_f hg i0
 apply wp_exit
 refine p_then ?_
 refine p_then ?_
 refine p_in ?_
 refine S s<|pw<|vw<|aw q<|nw fun a s => ?_
 apply wp_ret
 obtain rfl := si hg
 exact fin1 (fn := Tryz.f71) s q (r_tmp s q) q
set_option maxHeartbeats 1000000 in
theorem c_r19_SameDesc (n : Nat) : ∀ (M : Bs) (w0 : World) (hM : ∀ b, M b → b < w0.heap.size) (a_ : Desc) (e0 : Option Addr) (j0 : Nat) (g0 : Option Addr) (k0 : Nat) (u0 : (a_.Name).length ≤ 9223372036854775807) (o0 : sR Rep.str M w0 e0 j0 a_.Path) (p0 : sR RDesc M w0 g0 k0 a_.Kids) (b_ : Desc) (h0 : Option Addr) (l0 : Nat) (i0 : Option Addr) (m0 : Nat) (v0 : (b_.Name).length ≤ 9223372036854775807) (q0 : sR Rep.str M w0 h0 l0 b_.Path) (r0 : sR RDesc M w0 i0 m0 b_.Kids) (r : Bool) (hg : r19_SameDesc n a_ b_ = some r),
    Calls Tryz.prog 70 [.agg #[.int .i64 (a_.Op), vT a_.Name, sl e0 a_.Path j0, sl g0 a_.Kids k0], .agg #[.int .i64 (b_.Op), vT b_.Name, sl h0 b_.Path l0, sl i0 b_.Kids m0]].toArray w0 (Ret noB w0 fun v w => v = .bool (r)) := by
 induction n with
 | zero => intros; rename_i hg; rw [r19_SameDesc] at hg; cases hg
 | succ n c_self =>
 intro M w0 hM a_ e0 j0 g0 k0 u0 o0 p0 b_ h0 l0 i0 m0 v0 q0 r0 r hg
 rw [r19_SameDesc] at hg
 refine enter M noB func70 q q hM ?_
 intro a s
 refine S s<|esw 101 o0<|esw 102 p0<|esw 103 q0<|esw 104 r0<|vw fun a s => ?_
 refine l_seq q (l_box (zs := [vI a_.Op, vT a_.Name, sl e0 a_.Path j0, sl g0 a_.Kids k0]) s 1000 q q q q fun b3 a w hb hK s => ?_)
 refine l_seq q (l_box (zs := [vI b_.Op, vT b_.Name, sl h0 b_.Path l0, sl i0 b_.Kids m0]) s 1001 q q q q fun b4 a w hb hK s => ?_)
 refine S s<|aw q<|nw<|sw fun a s => ?_
 rcases Decidable.em (a_.Op = b_.Op) with b0 | b0
 ·have c0 := decide_eq_true b0
  replace hg := br_t hg b0
  rcases Decidable.em ((a_.Name : List UInt8) = b_.Name) with d0 | d0
  ·have n0 := decide_eq_true d0
   replace hg := br_t hg d0
   obtain ⟨r7, s0, hg⟩ := bind_some hg
   rcases Bool.eq_false_or_eq_true (r7) with a0 | a0
   ·replace hg := br_t hg a0
    obtain ⟨x0, t0, hg⟩ := bind_some hg
    refine S s<|lw<|yw q (bF 0 · u60 q)<|yw q (lB 1000 · u3 q)<|yw q (bF 0 · u60 q)<|yw q (lB 1001 · u3 q)<|yw q (fun s => yl_b (y_eql s q q) c0)<|mw q<|zw q (bF 1 · u60 q)<|zw q (lB 1000 · u9 q)<|zw q (bF 1 · u60 q)<|zw q (lB 1001 · u9 q)<|zw q (fun s => yl_b (y_seq s q q) n0)<|tw_ q<|mw q<|zw q (bF 2 · u60 q)<|zw q (lB 1000 · u25 q)<|zw q (bF 2 · u60 q)<|zw q (lB 1001 · u25 q) fun a s => ?_
    refine gC s q func14 (c_r01_Same n _ _ s.lt _ _ _ (s.ft 101 q) _ _ _ (s.ft 103 q) _ s0) fun y0 a w hK hp s => ?_
    obtain rfl := hp.trans (congrArg Value.bool a0)
    refine S s<|tw_ q<|mw q<|zw q (bF 3 · u60 q)<|zw q (lB 1000 · u58 q)<|zw q (bF 3 · u60 q)<|zw q (lB 1001 · u58 q) fun a s => ?_
    refine gV s q func71 (c_r19_SameDescs n (r19_SameDesc n) c_self _ _ s.lt _ _ _ (s.ft 102 q) _ _ _ (s.ft 104 q) _ t0) fun a w hK s => ?_
    refine S s<|tw_ q<|aw q<|nw fun a s => ?_
    apply wp_ret
    obtain rfl := si hg
    exact fin1 (fn := Tryz.f70) s q (r_tmp s q) q
   replace hg := br_n hg a0
   refine S s<|lw<|yw q (bF 0 · u60 q)<|yw q (lB 1000 · u3 q)<|yw q (bF 0 · u60 q)<|yw q (lB 1001 · u3 q)<|yw q (fun s => yl_b (y_eql s q q) c0)<|mw q<|zw q (bF 1 · u60 q)<|zw q (lB 1000 · u9 q)<|zw q (bF 1 · u60 q)<|zw q (lB 1001 · u9 q)<|zw q (fun s => yl_b (y_seq s q q) n0)<|tw_ q<|mw q<|zw q (bF 2 · u60 q)<|zw q (lB 1000 · u25 q)<|zw q (bF 2 · u60 q)<|zw q (lB 1001 · u25 q) fun a s => ?_
   refine gC s q func14 (c_r01_Same n _ _ s.lt _ _ _ (s.ft 101 q) _ _ _ (s.ft 103 q) _ s0) fun z0 a w hK hp s => ?_
   obtain rfl := hp.trans (congrArg Value.bool a0)
   refine S s<|tw_ q<|mw q<|gw q<|gw q<|gw q<|gw q<|gw q<|fw q<|aw q<|nw fun a s => ?_
   apply wp_ret
   obtain rfl := si hg
   exact fin1 (fn := Tryz.f70) s q (r_tmp s q) q
  have n0 := decide_eq_false d0
  replace hg := br_f hg d0
  refine S s<|lw<|yw q (bF 0 · u60 q)<|yw q (lB 1000 · u3 q)<|yw q (bF 0 · u60 q)<|yw q (lB 1001 · u3 q)<|yw q (fun s => yl_b (y_eql s q q) c0)<|mw q<|zw q (bF 1 · u60 q)<|zw q (lB 1000 · u9 q)<|zw q (bF 1 · u60 q)<|zw q (lB 1001 · u9 q)<|zw q (fun s => yl_b (y_seq s q q) n0)<|tw_ q<|mw q<|gw q<|gw q<|gw q<|gw q<|gw q<|fw q<|mw q<|gw q<|gw q<|gw q<|gw q<|gw q<|fw q<|aw q<|nw fun a s => ?_
  apply wp_ret
  obtain rfl := si hg
  exact fin1 (fn := Tryz.f70) s q (r_tmp s q) q
 have c0 := decide_eq_false b0
 replace hg := br_f hg b0
 refine S s<|lw<|yw q (bF 0 · u60 q)<|yw q (lB 1000 · u3 q)<|yw q (bF 0 · u60 q)<|yw q (lB 1001 · u3 q)<|yw q (fun s => yl_b (y_eql s q q) c0)<|mw q<|gw q<|gw q<|gw q<|gw q<|gw q<|fw q<|mw q<|gw q<|gw q<|gw q<|gw q<|gw q<|fw q<|mw q<|gw q<|gw q<|gw q<|gw q<|gw q<|fw q<|aw q<|nw fun a s => ?_
 apply wp_ret
 obtain rfl := si hg
 exact fin1 (fn := Tryz.f70) s q (r_tmp s q) q
set_option maxHeartbeats 1000000 in
theorem c_r21_sameDefs (n : Nat) (M : Bs) (w0 : World) (hM : ∀ b, M b → b < w0.heap.size) (a_ : (List Def)) (d0 : Option Addr) (g0 : Nat) (R1 : sR RDef M w0 d0 g0 a_) (b_ : (List Def)) (e0 : Option Addr) (h0 : Nat) (S1 : sR RDef M w0 e0 h0 b_) (r : Bool) (hg : r21_sameDefs n a_ b_ = some r) :
    Calls Tryz.prog 49 [sl d0 a_ g0, sl e0 b_ h0].toArray w0 (Ret noB w0 fun v w => v = .bool (r)) := by
 unfold r21_sameDefs at hg
 refine enter M noB func49 q q hM ?_
 intro a s
 let F : Al Fact := [(101, sF RDef d0 g0 a_), (102, sF RDef e0 h0 b_)]
 refine S s<|esw 101 R1<|esw 102 S1<|vw<|aw q<|nw<|sw<|vw<|mw q<|yw q (lS · q u33)<|mw q<|yw q (lS · q u33)<|yw q (y_neqN (i := ((a_).length)) (j := ((b_).length)) · q q)<|nw fun a s => c_dec s q (fun l0 => ?_) (fun l0 => ?_)
 ·replace hg := br_t hg l0
  refine S s<|vw<|aw q<|nw fun a s => ?_
  apply wp_ret
  refine p_thenR ?_
  obtain rfl := si hg
  exact fin1 (fn := Tryz.f49) s q (r_tmp s q) q
 replace hg := br_f hg l0
 refine S s<|kw<|pw<|sw<|vw<|aw q<|nw<|bw fun a s => ?_
 refine c_loop (σ := Nat) (fun m1 a w => ∃ (a0 : Nat), r21_sameDefs_L0 n a_ b_ m1 a0 = some r ∧ St (cx f49 M w0) [(0, sl d0 a_ g0), (1, sl e0 b_ h0), (5, vI (((a0 : Nat) : Int)))] [] F a w) (fun m1 => m1) n ⟨(0), hg, (s.sb q q q)⟩ ?_
 clear s a; rintro m1 a w ⟨a0, hg, s⟩
 rcases m1 with _ | m1
 ·rw [r21_sameDefs_L0] at hg; cases hg
 rw [r21_sameDefs_L0] at hg
 refine S s<|sw<|vw<|mw q<|mw q<|yw q (lS · q u33)<|yw q (y_lssN (i := a0) (j := ((a_).length)) · q q)<|nw fun a s => c_dec s q (fun m0 => ?_) (fun m0 => ?_)
 ·replace hg := br_t hg m0
  have T4 := SlR.mx (s.ft 101 q)
  refine S s<|kw<|pw<|sw<|bw<|sw fun a s => ?_
  obtain ⟨k5, hg, l1⟩ := jn_some hg
  refine c_post (fun a w => ∃ (q0 : Bool), k5 q0 = some r ∧ St (cx f49 M w0) [(0, sl d0 a_ g0), (1, sl e0 b_ h0), (5, vI (((a0 : Nat) : Int))), (55, .bool (q0))] [] F a w) ?_ ?_
  ·obtain ⟨x8, c0, hg⟩ := bind_some hg
   obtain ⟨O2, b0, hg⟩ := bind_some hg
   rcases Decidable.em ((x8.Name : List UInt8) ≠ O2.Name) with i0 | i0
   ·have k0 := decide_eq_true i0
    replace hg := br_t hg i0
    refine d_plan s [] [(0, some 0), (1, some 0), (2, some 0), (3, some 0), (4, some 0), (5, some 0), (6, some 0), (7, some 0), (8, some 0), (9, some 0), (10, some 0), (11, some 0), (12, some 0), (13, some 0), (14, some 0), (15, some 0), (16, some 0), (17, some 0), (18, some 0), (19, some 0), (20, some 0), (21, some 0), (22, some 0), (23, some 0), (24, some 0), (25, some 0), (26, some 0), (27, some 0), (28, some 0), (29, some 0), (30, some 0), (31, some 0), (32, some 0), (33, some 0), (34, some 0), (35, some 0), (36, some 0), (37, some 0), (38, some 0)] q (by kernel_rfl) (by kernel_rfl) q ?_; clear s; intro wr hZ s; have hR := s.wd
    refine S s<|qw hR q (mo · q)<|qw hR q (mo · q) fun a s => ?_
    obtain ⟨K5, j1, n1, C1, E4, T0, E0⟩ := SlR.elemX (s.ft 101 q) c0
    refine S s<|qw hR q (eL 6 a0 · u33 j1 (lt_of_get c0) q)<|qw hR q (pF 0 · u62 q) fun a s => ?_
    obtain ⟨P2, J3, Q2, K3, R2, L3, rfl, g5, h5, T1, U1, V1⟩ := RDef.open T0
    refine S s<|nsw 109 T1<|nsw 110 U1<|nsw 111 V1<|qw hR q (lP · n1 C1 (E0 0 _ q) u9 q)<|qw hR q (mo · q)<|qw hR q (mo · q) fun a s => ?_
    obtain ⟨L5, k1, o1, D1, F4, U0, F0⟩ := SlR.elemX (s.ft 102 q) b0
    refine S s<|qw hR q (eL 6 a0 · u33 k1 (lt_of_get b0) q)<|qw hR q (pF 0 · u62 q) fun a s => ?_
    obtain ⟨S2, M3, T2, O3, U2, P3, rfl, i5, j5, X1, Y1, Z1⟩ := RDef.open U0
    refine S s<|nsw 112 X1<|nsw 113 Y1<|nsw 114 Z1<|qw hR q (lP · o1 D1 (F0 0 _ q) u9 q)<|qw hR q (fun s => yl_b (y_sne s q q) k0)<|qw hR q (mo · q)<|qpw hR q<|qpw hR q<|qpw hR q<|qpw hR q<|qpw hR q<|qpw hR q<|qpw hR q<|qpw hR q<|qpw hR q<|qpw hR q<|qpw hR q<|qpw hR q<|qw hR q (pT · q q)<|qw hR q (mo · q)<|qpw hR q<|qpw hR q<|qpw hR q<|qpw hR q<|qpw hR q<|qpw hR q<|qpw hR q<|qpw hR q<|qpw hR q<|qpw hR q<|qpw hR q<|qpw hR q<|qw hR q (pT · q q) fun a s => ?_
    clear hR hZ
    apply pN
    exact ⟨(true), hg, (s.sb q q q)⟩
   have k0 := decide_eq_false i0
   replace hg := br_f hg i0
   obtain ⟨M2, B0, hg⟩ := bind_some hg
   rcases Bool.eq_false_or_eq_true (!(M2)) with j0 | j0
   ·replace hg := br_t hg j0
    refine d_steps s [] q ?_; clear s; intro wr hZ s; have hR := s.wd; have hE := Ext.init hR 0
    refine S s<|nqw 0 0 hR q (mo · q)<|nqw 1 0 hR q (mo · q) fun a s => ?_
    obtain ⟨M5, r0, U4⟩ := SlR.elemX (s.ft 101 q) c0
    refine S s<|nqw 2 0 hR q (eL 6 a0 · u33 r0 (lt_of_get c0) q)<|nqw 3 0 hR q (pF 0 · u62 q) fun a s => ?_
    obtain ⟨p1, E1, G4, V0, G0⟩ := (SlR.again (s.ft 101 q) c0 r0)
    obtain ⟨V2, Q3, X2, R3, Y2, S3, rfl, l5, m5, a2, b2, c2⟩ := RDef.open V0
    refine S s<|nsw 121 a2<|nsw 122 b2<|nsw 123 c2<|nqw 4 0 hR q (lP · p1 E1 (G0 0 _ q) u9 q)<|nqw 5 0 hR q (mo · q)<|nqw 6 0 hR q (mo · q) fun a s => ?_
    obtain ⟨O5, s0, V4⟩ := SlR.elemX (s.ft 102 q) b0
    refine S s<|nqw 7 0 hR q (eL 6 a0 · u33 s0 (lt_of_get b0) q)<|nqw 8 0 hR q (pF 0 · u62 q) fun a s => ?_
    obtain ⟨q1, F1, H4, X0, H0⟩ := (SlR.again (s.ft 102 q) b0 s0)
    obtain ⟨Z2, T3, a3, U3, b3, V3, rfl, n5, o5, d2, e2, g2⟩ := RDef.open X0
    refine S s<|nsw 124 d2<|nsw 125 e2<|nsw 126 g2<|nqw 9 0 hR q (lP · q1 F1 (H0 0 _ q) u9 q)<|nqw 10 0 hR q (fun s => yl_b (y_sne s q q) k0)<|nqw 11 0 hR q (mo · q)<|nqw 12 0 hR q (mo · q)<|nqw 13 0 hR q (mo · q) fun a s => ?_
    obtain ⟨P5, t0, X4⟩ := SlR.elemX (s.ft 101 q) c0
    refine S s<|nqw 14 0 hR q (eL 6 a0 · u33 t0 (lt_of_get c0) q)<|nqw 15 0 hR q (pF 1 · u62 q) fun a s => ?_
    obtain ⟨r1, G1, I4, Y0, I0⟩ := (SlR.again (s.ft 101 q) c0 t0)
    obtain ⟨c3, X3, d3, Y3, e3, Z3, rfl, p5, q5, h2, i2, j2⟩ := RDef.open Y0
    refine S s<|nsw 127 h2<|nsw 128 i2<|nsw 129 j2<|nqw 16 0 hR q (lD [_, _, _, _] 1 · r1 G1 I0 u60 q)<|nqw 17 0 hR q (mo · q)<|nqw 18 0 hR q (mo · q) fun a s => ?_
    obtain ⟨Q5, u0, Y4⟩ := SlR.elemX (s.ft 102 q) b0
    refine S s<|nqw 19 0 hR q (eL 6 a0 · u33 u0 (lt_of_get b0) q)<|nqw 20 0 hR q (pF 1 · u62 q) fun a s => ?_
    obtain ⟨s1, H1, J4, Z0, J0⟩ := (SlR.again (s.ft 102 q) b0 u0)
    obtain ⟨g3, a4, h3, b4, i3, c4, rfl, r5, s5, k2, l2, m2⟩ := RDef.open Z0
    refine S s<|nsw 130 k2<|nsw 131 l2<|nsw 132 m2<|nqw 21 0 hR q (lD [_, _, _, _] 1 · s1 H1 J0 u60 q) fun a s => ?_
    refine nC 22 s q q func70 (c_r19_SameDesc n _ _ s.lt _ _ _ _ _ (by omega) (s.ft 127 q) (s.ft 128 q) _ _ _ _ _ (by omega) (s.ft 130 q) (s.ft 131 q) _ B0) fun Y5 a w hK hp s => ?_
    refine gk hE hZ hK fun hE hZ => ?_; clear hK
    obtain rfl := hp
    refine S s<|nzw 23 q (fun s => yl_b (y_not s q) j0)<|nzw 24 q (pO · q q)<|nzw 25 q (mo · q)<|nfw 26 hE q<|nfw 27 hE q<|nfw 28 hE q<|nfw 29 hE q<|nfw 30 hE q<|nfw 31 hE q<|npw 32 q<|npw 33 q<|npw 34 q<|npw 35 q<|npw 36 q<|npw 37 q<|nzw 38 q (pT · q q) fun a s => ?_
    refine n_end (by kernel_rfl) ?_; clear hR hZ hE
    apply pN
    exact ⟨(true), hg, (s.sb q q q)⟩
   replace hg := br_n hg j0
   obtain ⟨D0, C0, hg⟩ := bind_some hg
   refine d_steps s [] q ?_; clear s; intro wr hZ s; have hR := s.wd; have hE := Ext.init hR 0
   refine S s<|nqw 0 0 hR q (mo · q)<|nqw 1 0 hR q (mo · q) fun a s => ?_
   obtain ⟨R5, v0, Z4⟩ := SlR.elemX (s.ft 101 q) c0
   refine S s<|nqw 2 0 hR q (eL 6 a0 · u33 v0 (lt_of_get c0) q)<|nqw 3 0 hR q (pF 0 · u62 q) fun a s => ?_
   obtain ⟨t1, I1, K4, a1, K0⟩ := (SlR.again (s.ft 101 q) c0 v0)
   obtain ⟨j3, d4, k3, e4, l3, g4, rfl, t5, u5, n2, o2, p2⟩ := RDef.open a1
   refine S s<|nsw 139 n2<|nsw 140 o2<|nsw 141 p2<|nqw 4 0 hR q (lP · t1 I1 (K0 0 _ q) u9 q)<|nqw 5 0 hR q (mo · q)<|nqw 6 0 hR q (mo · q) fun a s => ?_
   obtain ⟨S5, x0, a5⟩ := SlR.elemX (s.ft 102 q) b0
   refine S s<|nqw 7 0 hR q (eL 6 a0 · u33 x0 (lt_of_get b0) q)<|nqw 8 0 hR q (pF 0 · u62 q) fun a s => ?_
   obtain ⟨u1, J1, L4, b1, L0⟩ := (SlR.again (s.ft 102 q) b0 x0)
   obtain ⟨m3, h4, n3, i4, o3, j4, rfl, v5, w5, q2, r2, s2⟩ := RDef.open b1
   refine S s<|nsw 142 q2<|nsw 143 r2<|nsw 144 s2<|nqw 9 0 hR q (lP · u1 J1 (L0 0 _ q) u9 q)<|nqw 10 0 hR q (fun s => yl_b (y_sne s q q) k0)<|nqw 11 0 hR q (mo · q)<|nqw 12 0 hR q (mo · q)<|nqw 13 0 hR q (mo · q) fun a s => ?_
   obtain ⟨T5, y0, b5⟩ := SlR.elemX (s.ft 101 q) c0
   refine S s<|nqw 14 0 hR q (eL 6 a0 · u33 y0 (lt_of_get c0) q)<|nqw 15 0 hR q (pF 1 · u62 q) fun a s => ?_
   obtain ⟨v1, K1, M4, c1, M0⟩ := (SlR.again (s.ft 101 q) c0 y0)
   obtain ⟨p3, k4, q3, l4, r3, m4, rfl, x5, y5, t2, u2, v2⟩ := RDef.open c1
   refine S s<|nsw 145 t2<|nsw 146 u2<|nsw 147 v2<|nqw 16 0 hR q (lD [_, _, _, _] 1 · v1 K1 M0 u60 q)<|nqw 17 0 hR q (mo · q)<|nqw 18 0 hR q (mo · q) fun a s => ?_
   obtain ⟨U5, z0, c5⟩ := SlR.elemX (s.ft 102 q) b0
   refine S s<|nqw 19 0 hR q (eL 6 a0 · u33 z0 (lt_of_get b0) q)<|nqw 20 0 hR q (pF 1 · u62 q) fun a s => ?_
   obtain ⟨w1, L1, O4, d1, O0⟩ := (SlR.again (s.ft 102 q) b0 z0)
   obtain ⟨s3, n4, t3, o4, v3, p4, rfl, z5, B5, w2, x2, y2⟩ := RDef.open d1
   refine S s<|nsw 148 w2<|nsw 149 x2<|nsw 150 y2<|nqw 21 0 hR q (lD [_, _, _, _] 1 · w1 L1 O0 u60 q) fun a s => ?_
   refine nC 22 s q q func70 (c_r19_SameDesc n _ _ s.lt _ _ _ _ _ (by omega) (s.ft 145 q) (s.ft 146 q) _ _ _ _ _ (by omega) (s.ft 148 q) (s.ft 149 q) _ B0) fun Z5 a w hK hp s => ?_
   refine gk hE hZ hK fun hE hZ => ?_; clear hK
   obtain rfl := hp
   refine S s<|nzw 23 q (fun s => yl_b (y_not s q) j0)<|nzw 24 q (pO · q q)<|nzw 25 q (mo · q)<|new 26 hE q (fun w' s => y_move s q)<|new 27 hE q (fun w' s => y_move s q) fun a s => ?_
   obtain ⟨V5, o0, d5⟩ := SlR.elemX (s.ft 101 q) c0
   refine S s<|new 28 hE q (fun w' s => y_elem (sz := 6) (i := a0) s q q u33 q o0 q (lt_of_get c0))<|new 29 hE q (fun w' s => y_ptrField (o' := 5) s q u62 q q q)<|new 31 hE q (fun w' s => y_move s q)<|new 32 hE q (fun w' s => y_move s q) fun a s => ?_
   obtain ⟨X5, p0, e5⟩ := SlR.elemX (s.ft 102 q) b0
   refine S s<|new 33 hE q (fun w' s => y_elem (sz := 6) (i := a0) s q q u33 q p0 q (lt_of_get b0))<|new 34 hE q (fun w' s => y_ptrField (o' := 5) s q u62 q q q) fun a s => ?_
   refine n_2 30 35 s (by kernel_rfl) q ⟨_, _, _, q, q, q, q⟩ q ⟨_, _, _, q, q, q, q⟩ ?_ ?_
   ·obtain ⟨x1, M1, P4, e1, P0⟩ := (SlR.again (s.ft 101 q) c0 o0)
    obtain ⟨w3, q4, x3, r4, y3, s4, rfl, C5, D5, z2, B2, C2⟩ := RDef.open e1
    replace s := s.ns 151 z2 |>.ns 152 B2 |>.ns 153 C2
    refine l_quiet s q q (lP s x1 M1 (P0 5 _ q) u58 q) fun a s => ?_; refine ⟨fun g _ h => h, ?_⟩
    obtain ⟨y1, O1, Q4, g1, Q0⟩ := (SlR.again (s.ft 102 q) b0 p0)
    obtain ⟨z3, t4, B3, v4, C3, w4, rfl, E5, F5, D2, E2, F2⟩ := RDef.open g1
    refine S s<|nsw 154 D2<|nsw 155 E2<|nsw 156 F2<|nzw 35 q (lP · y1 O1 (Q0 5 _ q) u58 q) fun a s => ?_
    refine nC 36 s q q func71 (c_r19_SameDescs n (r19_SameDesc n) (c_r19_SameDesc n) _ _ s.lt _ _ _ (s.ft 153 q) _ _ _ (s.ft 156 q) _ C0) fun a6 a w hK hp s => ?_
    refine gk hE hZ hK fun hE hZ => ?_; clear hK
    obtain rfl := hp
    refine S s<|nzw 37 q (y_not · q)<|nzw 38 q (pO · q q) fun a s => ?_
    refine n_end (by kernel_rfl) ?_; clear hR hZ hE
    apply pN
    exact ⟨(!(D0)), hg, (s.sb q q q)⟩
   ·obtain ⟨z1, P1, R4, h1, R0⟩ := (SlR.again (s.ft 102 q) b0 p0)
    obtain ⟨D3, x4, E3, y4, F3, z4, rfl, G5, H5, G2, H2, I2⟩ := RDef.open h1
    replace s := s.ns 157 G2 |>.ns 158 H2 |>.ns 159 I2
    refine l_quiet s q q (lP s z1 P1 (R0 5 _ q) u58 q) fun a s => ?_; refine ⟨fun g _ h => h, ?_⟩
    obtain ⟨B1, Q1, S4, i1, S0⟩ := (SlR.again (s.ft 101 q) c0 o0)
    obtain ⟨G3, B4, H3, C4, I3, D4, rfl, I5, J5, J2, K2, L2⟩ := RDef.open i1
    refine S s<|nsw 160 J2<|nsw 161 K2<|nsw 162 L2<|nzw 30 q (lP · B1 Q1 (S0 5 _ q) u58 q) fun a s => ?_
    refine nC 36 s q q func71 (c_r19_SameDescs n (r19_SameDesc n) (c_r19_SameDesc n) _ _ s.lt _ _ _ (s.ft 162 q) _ _ _ (s.ft 159 q) _ C0) fun b6 a w hK hp s => ?_
    refine gk hE hZ hK fun hE hZ => ?_; clear hK
    obtain rfl := hp
    refine S s<|nzw 37 q (y_not · q)<|nzw 38 q (pO · q q) fun a s => ?_
    refine n_end (by kernel_rfl) ?_; clear hR hZ hE
    apply pN
    exact ⟨(!(D0)), hg, (s.sb q q q)⟩
  clear s a; rintro a w ⟨q0, hg, s⟩
  subst l1
  refine c_cond s q (fun n0 => ?_) (fun n0 => ?_)
  ·replace hg := br_t hg n0
   refine S s<|vw<|aw q<|nw fun a s => ?_
   apply wp_ret
   refine p_inR ?_
   refine p_thenR ?_
   refine p_thenR ?_
   refine p_inR ?_
   refine p_thenR ?_
   obtain rfl := si hg
   exact fin1 (fn := Tryz.f49) s q (r_tmp s q) q
  replace hg := br_n hg n0
  apply wp_skip
  refine p_inN ?_
  refine S s<|pw<|lw<|mw q<|yw q (y_addN (i := a0) (j := 1) · q q (in64.2 (by omega)))<|aw q<|nw fun a s => ?_
  exact ⟨m1, Nat.lt_succ_self _, ⟨(a0 + 1), hg, (s.sb q q q)⟩⟩
 replace hg := br_f hg m0
 apply wp_exit
 refine p_then ?_
 refine p_then ?_
 refine p_in ?_
 refine S s<|pw<|vw<|aw q<|nw fun a s => ?_
 apply wp_ret
 obtain rfl := si hg
 exact fin1 (fn := Tryz.f49) s q (r_tmp s q) q
set_option maxHeartbeats 1000000 in
theorem c_r21_SameAffix (n : Nat) (M : Bs) (w0 : World) (hM : ∀ b, M b → b < w0.heap.size) (a_ : Affix) (b0 : Option Addr) (d0 : Nat) (B0 : sR RChange M w0 b0 d0 a_.Pairs) (b_ : Affix) (c0 : Option Addr) (e0 : Nat) (C0 : sR RChange M w0 c0 e0 b_.Pairs) (r : Bool) (hg : r21_SameAffix n a_ b_ = some r) :
    Calls Tryz.prog 72 [.agg #[.int .i64 (a_.Kind), sl b0 a_.Pairs d0], .agg #[.int .i64 (b_.Kind), sl c0 b_.Pairs e0]].toArray w0 (Ret noB w0 fun v w => v = .bool (r)) := by
 unfold r21_SameAffix at hg
 refine enter M noB func72 q q hM ?_
 intro a s
 let F : Al Fact := [(101, sF RChange b0 d0 a_.Pairs), (102, sF RChange c0 e0 b_.Pairs)]
 refine S s<|esw 101 B0<|esw 102 C0<|vw fun a s => ?_
 refine l_seq q (l_box (zs := [vI a_.Kind, sl b0 a_.Pairs d0]) s 1000 q q q q fun b3 a w hb hK s => ?_)
 refine l_seq q (l_box (zs := [vI b_.Kind, sl c0 b_.Pairs e0]) s 1001 q q q q fun b4 a w hb hK s => ?_)
 refine S s<|aw q<|nw<|sw<|sw fun a s => ?_
 obtain ⟨k5, hg, u0⟩ := jn_some hg
 refine c_post (fun a w => ∃ (l0 : Bool), k5 l0 = some r ∧ St (cx f72 M w0) [(2, vP b3 0), (3, vP b4 0), (19, .bool (l0))] [(1000, Ob.box b3 [vI a_.Kind, sl b0 a_.Pairs d0] 92), (1001, Ob.box b4 [vI b_.Kind, sl c0 b_.Pairs e0] 92)] F a w) ?_ ?_
 ·rcases Decidable.em (a_.Kind ≠ b_.Kind) with g0 | g0
  ·have k0 := decide_eq_true g0
   replace hg := br_t hg g0
   refine S s<|lw<|yw q (bF 0 · u92 q)<|yw q (lB 1000 · u3 q)<|yw q (bF 0 · u92 q)<|yw q (lB 1001 · u3 q)<|yw q (fun s => yl_b (y_neq s q q) k0)<|mw q<|gw q<|gw q<|gw q<|gw q<|gw q<|gw q<|gw q<|tw_ q<|nw fun a s => ?_
   exact ⟨(true), hg, (s.sb q q q)⟩
  have k0 := decide_eq_false g0
  replace hg := br_f hg g0
  refine S s<|lw<|yw q (bF 0 · u92 q)<|yw q (lB 1000 · u3 q)<|yw q (bF 0 · u92 q)<|yw q (lB 1001 · u3 q)<|yw q (fun s => yl_b (y_neq s q q) k0)<|mw q<|zw q (bF 1 · u92 q)<|zw q (lB 1000 · u90 q)<|zw q (lS · q u90)<|zw q (bF 1 · u92 q)<|zw q (lB 1001 · u90 q)<|zw q (lS · q u90)<|zw q (y_neqN (i := ((a_.Pairs).length)) (j := ((b_.Pairs).length)) · q q)<|fw q<|nw fun a s => ?_
  exact ⟨(decide (((a_.Pairs).length) ≠ ((b_.Pairs).length))), hg, (s.sb q q q)⟩
 clear s a; rintro a w ⟨l0, hg, s⟩
 subst u0
 refine c_cond s q (fun j0 => ?_) (fun j0 => ?_)
 ·replace hg := br_t hg j0
  refine S s<|vw<|aw q<|nw fun a s => ?_
  apply wp_ret
  refine p_thenR ?_
  obtain rfl := si hg
  exact fin1 (fn := Tryz.f72) s q (r_tmp s q) q
 replace hg := br_n hg j0
 refine S s<|kw<|pw<|sw<|vw<|aw q<|nw<|bw fun a s => ?_
 refine c_loop (σ := Nat) (fun m1 a w => ∃ (a0 : Nat), r21_SameAffix_L0 n a_ b_ m1 a0 = some r ∧ St (cx f72 M w0) [(2, vP b3 0), (3, vP b4 0), (5, vI (((a0 : Nat) : Int)))] [(1000, Ob.box b3 [vI a_.Kind, sl b0 a_.Pairs d0] 92), (1001, Ob.box b4 [vI b_.Kind, sl c0 b_.Pairs e0] 92)] F a w) (fun m1 => m1) n ⟨(0), hg, (s.sb q q q)⟩ ?_
 clear s a; rintro m1 a w ⟨a0, hg, s⟩
 rcases m1 with _ | m1
 ·rw [r21_SameAffix_L0] at hg; cases hg
 rw [r21_SameAffix_L0] at hg
 refine S s<|sw<|vw<|mw q<|yw q (bF 1 · u92 q)<|yw q (lB 1000 · u90 q)<|yw q (lS · q u90)<|yw q (y_lssN (i := a0) (j := ((a_.Pairs).length)) · q q)<|nw fun a s => c_dec s q (fun h0 => ?_) (fun h0 => ?_)
 ·replace hg := br_t hg h0
  have H0 := SlR.mx (s.ft 101 q)
  obtain ⟨D0, m0, hg⟩ := bind_some hg
  obtain ⟨E0, n0, hg⟩ := bind_some hg
  refine S s<|kw<|pw<|sw<|bw<|sw fun a s => ?_
  refine d_plan s [] [(0, some 0), (1, some 1000), (2, some 0), (3, some 0), (4, some 0), (5, some 0), (6, some 1001), (7, some 0), (8, some 0), (9, some 0), (10, some 0)] q (by kernel_rfl) (by kernel_rfl) q ?_; clear s; intro wr hZ s; have hR := s.wd
  refine S s<|qw hR q (bF 1 · u92 q)<|qw hR q (lB 1000 · u90 q)<|qw hR q (mo · q) fun a s => ?_
  obtain ⟨M0, s0, v0, y0, F0, q0, o0⟩ := SlR.elemX (s.ft 101 q) m0
  refine qt s hR q (eL 2 a0 s u90 s0 (lt_of_get m0) q) fun a s => ?_
  obtain ⟨rfl, I0, J0⟩ := RChange.open q0
  refine S s<|qw hR q (y_ldp · q v0 y0 (by simpa using o0) u144 q q)<|qw hR q (bF 1 · u92 q)<|qw hR q (lB 1001 · u90 q)<|qw hR q (mo · q) fun a s => ?_
  obtain ⟨O0, t0, x0, z0, G0, r0, p0⟩ := SlR.elemX (s.ft 102 q) n0
  refine qt s hR q (eL 2 a0 s u90 t0 (lt_of_get n0) q) fun a s => ?_
  obtain ⟨rfl, K0, L0⟩ := RChange.open r0
  refine S s<|qw hR q (y_ldp · q x0 z0 (by simpa using p0) u144 q q)<|qw hR q (y_neqS · q q (by kernel_rfl) (fun w' => eqChange D0 E0 w')) fun a s => ?_
  clear hR hZ
  apply pN
  refine c_not s q (fun i0 => ?_) (fun i0 => ?_)
  ·replace hg := br_f hg i0
   refine S s<|vw<|aw q<|nw fun a s => ?_
   apply wp_ret
   refine p_inR ?_
   refine p_thenR ?_
   refine p_thenR ?_
   refine p_inR ?_
   refine p_thenR ?_
   obtain rfl := si hg
   exact fin1 (fn := Tryz.f72) s q (r_tmp s q) q
  replace hg := br_t hg i0
  apply wp_skip
  refine p_inN ?_
  refine S s<|pw<|lw<|mw q<|yw q (y_addN (i := a0) (j := 1) · q q (in64.2 (by omega)))<|aw q<|nw fun a s => ?_
  exact ⟨m1, Nat.lt_succ_self _, ⟨(a0 + 1), hg, (s.sb q q q)⟩⟩
 replace hg := br_f hg h0
 apply wp_exit
 refine p_then ?_
 refine p_then ?_
 refine p_in ?_
 refine S s<|pw<|vw<|aw q<|nw fun a s => ?_
 apply wp_ret
 obtain rfl := si hg
 exact fin1 (fn := Tryz.f72) s q (r_tmp s q) q
end Go.Proofs.YtbhjplflnkidgaaGreat

