/- Chapter 22: the walks, part 3 -/
import Derived.Test.YtbhjplflnkidgaaGreatAU
import Derived.Test.YtbhjplflnkidgaaGreatA3
import Derived.Test.YtbhjplflnkidgaaGreatW2
namespace Go.Proofs.YtbhjplflnkidgaaGreat
open Go.Gl Go.RowKit Tryz
set_option linter.unusedVariables false
set_option linter.unusedSimpArgs false
set_option maxRecDepth 4000
set_option maxHeartbeats 1000000
theorem c_r22_Order (n : Nat) (M : Bs) (w0 : World) (hM : bM M w0) (l_ : (List Module)) (a0 : OA) (b0 : Nat) (X0 : sR RModule M w0 a0 b0 l_) (main_ : (List UInt8)) (Q1 : (main_).length ≤ 9223372036854775807) (r : ((List (List UInt8)) × Int)) (hg : r22_Order n l_ main_ = some r) :
    CA Tryz.prog 13 [sl a0 l_ b0, vT main_] w0 (fun v w => ∃ (p0 : OA), ∃ (q0 : Nat), v = .tuple #[sl p0 r.1 q0, .int .i64 (r.2)] ∧ (SlR Rep.str M w p0 (r.1).length q0 (r.1))) := by
 unfold r22_Order at hg
 refine enter M noB func13 q q hM ?_
 intro a s
 refine S s<|esw 101 X0<|vw<|aw q<|aw q<|nw<|sw<|vw<|aw q<|nw fun a s => ?_
 obtain ⟨k1, hg, M0⟩ := zJ hg
 refine c_post (fun a w => k1 = some r ∧ St (cx f13 M w0) [(0, sl a0 l_ b0), (1, vT main_)] [] [(101, sF RModule a0 b0 l_)] a w) ?_ ?_
 ·apply wp_block
  refine c_loop (σ := Nat) (fun m1 a w => ∃ (d0 : Nat), r22_Order_L0 n l_ k1 m1 d0 = some r ∧ St (cx f13 M w0) [(0, sl a0 l_ b0), (1, vT main_), (6, vI (((d0 : Nat) : Int)))] [] [(101, sF RModule a0 b0 l_)] a w) (fun m1 => m1) n ⟨(0), hg, (s.sb q q q)⟩ ?_
  clear s a; rintro m1 a w ⟨d0, hg, s⟩
  rcases m1 with _ | m1
  ·rw [r22_Order_L0] at hg; cases hg
  rw [r22_Order_L0] at hg
  refine S s<|sw<|vw<|mw q<|mw q<|yw q (lS · q u22)<|yw q (y_lssN (i := d0) (j := ((l_).length)) · q q)<|nw fun a s => c_dec s q (fun l0 => ?_) (fun l0 => ?_)
  ·replace hg := br_t hg l0
   have P1 := SlR.mx (s.ft 101 q)
   obtain ⟨x6, v0, hg⟩ := zB hg
   obtain ⟨r8, o1, hg⟩ := zB hg
   refine S s<|kw<|pw<|sw<|bw<|sw<|lw<|mw q<|mw q<|mw q fun a s => ?_
   obtain ⟨U1, J0, Q0, T0, J1, G0, D0⟩ := SlR.elemX (s.ft 101 q) v0
   refine S s<|yw q (eL 10 d0 · u22 J0 (lt_of_get v0) q)<|yw q (pF 0 · u38 q) fun a s => ?_
   obtain ⟨r1, B1, s1, C1, t1, D1, u1, E1, v1, F1, w1, G1, x1, H1, y1, I1, q1, z1, rfl, R1, Z0, a1, b1, c1, d1, e1, g1, h1, Y0⟩ := RModule.open G0
   refine S s<|nsw 111 Z0<|nsw 112 a1<|nsw 113 b1<|nsw 114 c1<|nsw 115 d1<|nsw 116 e1<|nsw 117 g1<|nsw 118 h1<|nsw 119 Y0<|yw q (lP · Q0 T0 (D0 0 _ q) u9 q) fun a s => ?_
   refine lV s q func28 (c_r22_find n _ _ s.lt _ _ _ (s.ft 101 q) _ (by omega) _ o1) fun a w hK s => ?_
   refine S s<|mw q<|yw q (y_neq · q q)<|nw fun a s => c_dec s q (fun j0 => ?_) (fun j0 => ?_)
   ·replace hg := br_t hg j0
    refine S s<|vw<|aw q<|aw q<|nw fun a s => ?_
    apply wp_ret
    refine p_inR ?_
    refine p_thenR ?_
    refine p_thenR ?_
    refine p_inR ?_
    refine p_thenR ?_
    obtain rfl := si hg
    refine fin2 (fn := Tryz.f13) s q (r_tmp s q) (r_tmp s q) ?_
    exact ⟨(none), (0), q, (SlR.nil_ _ _ _)⟩
   replace hg := br_f hg j0
   apply wp_skip
   refine p_inN ?_
   refine S s<|pw<|lw<|mw q<|yw q (y_addN (i := d0) (j := 1) · q q (in64.2 (by omega)))<|aw q<|nw fun a s => ?_
   exact ⟨m1, Nat.lt_succ_self _, ⟨(d0 + 1), hg, (s.sb q q q)⟩⟩
  replace hg := br_f hg l0
  apply wp_exit
  refine p_then ?_
  refine p_then ?_
  refine p_in ?_
  apply pN
  exact ⟨hg, (s.sb q q q)⟩
 clear s a; rintro a w ⟨hg, s⟩
 subst M0
 obtain ⟨c0, i1, hg⟩ := zB hg
 refine S s<|sw<|lw<|mw q<|mw q fun a s => ?_
 refine lC s q func21 (c_r22_Needs n _ _ s.lt _ _ _ (s.ft 101 q) _ (by omega) _ i1) fun a2 a w hK hp s => ?_
 obtain ⟨h0, i0, rfl, p1⟩ := hp
 refine S s<|nsw 121 p1<|aw q<|nw<|sw<|vw<|aw q<|nw fun a s => ?_
 obtain ⟨x0, hg, O0⟩ := zJ hg
 refine c_post (fun a w => x0 = some r ∧ St (cx f13 M w0) [(0, sl a0 l_ b0), (1, vT main_), (7, sl h0 c0 i0)] [] [(101, sF RModule a0 b0 l_), (121, sF Rep.str h0 i0 c0)] a w) ?_ ?_
 ·apply wp_block
  refine c_loop (σ := Nat) (fun m2 a w => ∃ (e0 : Nat), r22_Order_L1 n l_ c0 x0 m2 e0 = some r ∧ St (cx f13 M w0) [(0, sl a0 l_ b0), (1, vT main_), (7, sl h0 c0 i0), (8, vI (((e0 : Nat) : Int)))] [] [(101, sF RModule a0 b0 l_), (121, sF Rep.str h0 i0 c0)] a w) (fun m2 => m2) n ⟨(0), hg, (s.sb q q q)⟩ ?_
  clear s a; rintro m2 a w ⟨e0, hg, s⟩
  rcases m2 with _ | m2
  ·rw [r22_Order_L1] at hg; cases hg
  rw [r22_Order_L1] at hg
  refine S s<|sw<|vw<|mw q<|mw q<|yw q (lS · q u25)<|yw q (y_lssN (i := e0) (j := ((c0).length)) · q q)<|nw fun a s => c_dec s q (fun k0 => ?_) (fun k0 => ?_)
  ·replace hg := br_t hg k0
   have M1 := SlR.mx (s.ft 121 q)
   obtain ⟨c2, t0, hg⟩ := zB hg
   obtain ⟨Y1, j1, hg⟩ := zB hg
   refine S s<|kw<|pw<|sw<|bw<|sw<|lw<|mw q<|mw q<|mw q fun a s => ?_
   obtain ⟨V1, K0, R0, U0, K1, H0, E0⟩ := SlR.elemX (s.ft 121 q) t0
   refine qq s q (eL 1 e0 s u25 K0 (lt_of_get t0) q) fun a s => ?_
   obtain ⟨rfl, S1⟩ := H0
   refine qq s q (lP s R0 U0 (E0 0 _ q) u9 q) fun a s => ?_
   refine lV s q func28 (c_r22_find n _ _ s.lt _ _ _ (s.ft 101 q) _ (by omega) _ j1) fun a w hK s => ?_
   refine S s<|yw q (y_lss · q q)<|nw fun a s => c_dec s q (fun m0 => ?_) (fun m0 => ?_)
   ·replace hg := br_t hg m0
    refine S s<|vw<|aw q<|aw q<|nw fun a s => ?_
    apply wp_ret
    refine p_inR ?_
    refine p_thenR ?_
    refine p_thenR ?_
    refine p_inR ?_
    refine p_thenR ?_
    obtain rfl := si hg
    refine fin2 (fn := Tryz.f13) s q (r_tmp s q) (r_tmp s q) ?_
    exact ⟨(none), (0), q, (SlR.nil_ _ _ _)⟩
   replace hg := br_f hg m0
   apply wp_skip
   refine p_inN ?_
   refine S s<|pw<|lw<|mw q<|yw q (y_addN (i := e0) (j := 1) · q q (in64.2 (by omega)))<|aw q<|nw fun a s => ?_
   exact ⟨m2, Nat.lt_succ_self _, ⟨(e0 + 1), hg, (s.sb q q q)⟩⟩
  replace hg := br_f hg k0
  apply wp_exit
  refine p_then ?_
  refine p_then ?_
  refine p_in ?_
  apply pN
  exact ⟨hg, (s.sb q q q)⟩
 clear s a; rintro a w ⟨hg, s⟩
 subst O0
 refine S s<|sw<|vw<|aw q<|nw fun a s => ?_
 obtain ⟨y0, hg, P0⟩ := zJ hg
 refine c_post (fun a w => y0 = some r ∧ St (cx f13 M w0) [(0, sl a0 l_ b0), (1, vT main_)] [] [(101, sF RModule a0 b0 l_)] a w) ?_ ?_
 ·apply wp_block
  refine c_loop (σ := Nat) (fun m3 a w => ∃ (g0 : Nat), r22_Order_L2 n l_ c0 y0 m3 g0 = some r ∧ St (cx f13 M w0) [(0, sl a0 l_ b0), (1, vT main_), (7, sl h0 c0 i0), (9, vI (((g0 : Nat) : Int)))] [] [(101, sF RModule a0 b0 l_), (121, sF Rep.str h0 i0 c0)] a w) (fun m3 => m3) n ⟨(0), hg, (s.sb q q q)⟩ ?_
  clear s a; rintro m3 a w ⟨g0, hg, s⟩
  rcases m3 with _ | m3
  ·rw [r22_Order_L2] at hg; cases hg
  rw [r22_Order_L2] at hg
  refine S s<|sw<|vw<|mw q<|mw q<|yw q (lS · q u25)<|yw q (y_lssN (i := g0) (j := ((c0).length)) · q q)<|nw fun a s => c_dec s q (fun n0 => ?_) (fun n0 => ?_)
  ·replace hg := br_t hg n0
   have O1 := SlR.mx (s.ft 121 q)
   obtain ⟨d2, u0, hg⟩ := zB hg
   obtain ⟨Z1, l1, hg⟩ := zB hg
   refine S s<|kw<|pw<|sw<|bw<|sw<|lw<|mw q<|mw q<|mw q fun a s => ?_
   obtain ⟨X1, L0, S0, V0, L1, I0, F0⟩ := SlR.elemX (s.ft 121 q) u0
   refine qq s q (eL 1 g0 s u25 L0 (lt_of_get u0) q) fun a s => ?_
   obtain ⟨rfl, T1⟩ := I0
   refine qq s q (lP s S0 V0 (F0 0 _ q) u9 q) fun a s => ?_
   refine lV s q func29 (c_r22_cyclic n _ _ s.lt _ _ _ (s.ft 101 q) _ (by omega) _ l1) fun a w hK s => ?_
   apply wN
   refine c_cond s q (fun o0 => ?_) (fun o0 => ?_)
   ·replace hg := br_t hg o0
    refine S s<|vw<|aw q<|aw q<|nw fun a s => ?_
    apply wp_ret
    refine p_inR ?_
    refine p_thenR ?_
    refine p_thenR ?_
    refine p_inR ?_
    refine p_thenR ?_
    obtain rfl := si hg
    refine fin2 (fn := Tryz.f13) s q (r_tmp s q) (r_tmp s q) ?_
    exact ⟨(none), (0), q, (SlR.nil_ _ _ _)⟩
   replace hg := br_n hg o0
   apply wp_skip
   refine p_inN ?_
   refine S s<|pw<|lw<|mw q<|yw q (y_addN (i := g0) (j := 1) · q q (in64.2 (by omega)))<|aw q<|nw fun a s => ?_
   exact ⟨m3, Nat.lt_succ_self _, ⟨(g0 + 1), hg, (s.sb q q q)⟩⟩
  replace hg := br_f hg n0
  apply wp_exit
  refine p_then ?_
  refine p_then ?_
  refine p_in ?_
  apply pN
  exact ⟨hg, (s.sb q q q)⟩
 clear s a; rintro a w ⟨hg, s⟩
 subst P0
 obtain ⟨z0, n1, hg⟩ := zB hg
 refine S s<|sw<|lw<|mw q<|mw q fun a s => ?_
 replace s := s.nilRow 800125 9 1 q
 replace s := s.add 126 (rdF Rep.str ([]) ([])) (rN)
 have hT := s.pk [(9200000, 800125)] (by decide)
 replace hT := hT.al 9300000 126 q
 replace hT := hT.al 9400000 101 q
 refine l_seq q (l_callMut (cap := []) hT _ [] (sbA (by rfl)) trivial (by rfl) q func30 q (by kernel_rfl) q q (c_r22_visit n _ _ (hT.restLt []) _ l_ (a0) (b0) main_ (by omega) [] (none) (0) ([]) (hT.wd.lendL _ _ _ (sbA (by rfl)) (keep_sub []) (by rfl) (sbA (by rfl))) z0 n1) ?_); intro b2 a' w' hK hp hF
 obtain ⟨Aou55, r0, B0, rfl, s0⟩ := hp
 have C0 := St.mk hF (hT.wd.back (sbA (by rfl)) (keep_sub []) (by rfl) s0 (by rfl))
 clear s hT hF s0 hK; revert C0; revert w'; revert a'; intro a w s
 replace s := s.al 127 9300000 q
 replace s := s.ren [(800125, Ob.row (Aou55) ((z0).length) (r0) 9 1 (B0))] [9200000] ⟨q, trivial⟩ (by decide)
 refine S s<|aw q<|aw q<|nw fun a s => ?_
 apply wp_ret
 obtain rfl := si hg
 refine fin2 (fn := Tryz.f13) s q (r_tmp s q) (r_tmp s q) ?_
 exact ⟨(Aou55), (r0), q, (s.rowOut (R := Rep.str) (kk := 800125) q q (s.ft 127 q))⟩
theorem c_r06_decl (n : Nat) (M : Bs) (w0 : World) (hM : bM M w0) (name_ : (List UInt8)) (c1 : (name_).length ≤ 9223372036854775807) (super_ : (List UInt8)) (d1 : (super_).length ≤ 9223372036854775807) (feats_ : (List (List UInt8))) (i0 : OA) (k0 : Nat) (S0 : sR Rep.str M w0 i0 k0 feats_) (r : TypeDecl) (hg : r06_decl n name_ super_ feats_ = some r) :
    CA Tryz.prog 60 [vT name_, vT super_, sl i0 feats_ k0] w0 (fun v w => ∃ (q0 : OA), ∃ (u0 : Nat), ∃ (r0 : OA), ∃ (v0 : Nat), v = .agg #[vT r.Name, sl q0 r.Supers u0, sl r0 r.Feats v0] ∧ ((r.Name).length ≤ 9223372036854775807) ∧ (SlR Rep.str M w q0 (r.Supers).length u0 (r.Supers)) ∧ (SlR RFeatDecl M w r0 (r.Feats).length v0 (r.Feats))) := by
 unfold r06_decl at hg
 refine enter M noB func60 q q hM ?_
 intro a s
 replace s := s.es 101 S0
 apply wR
 refine l_seq q (l_alloc (zs := [vT ([]), nS, nS]) s 1000 q q q q fun b2 a w hb hK s => ?_)
 refine S s<|nw<|vw<|mw q<|yw q (y_build (parts := [(0, .tmp 9)]) (ps := [(0, vT name_)]) (cells := #[vT name_, nS, nS]) · q (by kernel_rfl)) fun a s => ?_
 refine l_seq q (l_alloc (zs := [vT ([]), nS, nS]) s 1102 q q q q fun b4 a w hb hK s => ?_)
 refine l_seq q (l_store (n := 3) (cs' := [vT name_, nS, nS]) s 1102 q q q q q q q q ?_); clear s; intro w hK s; clear hK
 refine S s<|nw<|sw<|vw<|mw q<|yw q (y_sne · q q)<|nw fun a s => ?_
 obtain ⟨k5, hg, M0⟩ := zJ hg
 refine c_post (fun a w => ∃ (a0 : (List (List UInt8))) (A7 : OA) (c8 : Nat) (g0 : List Value), k5 a0 = some r ∧ St (cx f60 M w0) [(2, sl i0 feats_ k0), (6, vP b2 0), (7, vP b4 0)] [(1000, Ob.box b2 [vT ([]), nS, nS] 49), (1102, Ob.box b4 [vT name_, sl A7 a0 c8, nS] 49), (700102, Ob.row (A7) ((a0).length) (c8) 9 1 (g0))] [(101, sF Rep.str i0 k0 feats_), (103, rdF Rep.str (g0) (a0))] a w) ?_ ?_
 ·refine c_dec s q (fun o0 => ?_) (fun o0 => ?_)
  ·replace hg := br_t hg o0
   refine S s<|lw<|mw q fun a s => ?_
   refine l_seq q (l_buildDense (sz := 1) s 1301 q q q u25 q q q q q q q fun t0 a w E0 hK s => ?_)
   clear E0
   refine qq s q (bF 1 s u49 q) fun a s => ?_
   refine l_seq q (l_store (n := 1) (cs' := [vT name_, .slice (some ⟨t0, 0, none⟩) (1) (1), nS]) s 1102 q q q q q q q q ?_); clear s; intro w hK s; clear hK
   apply wN
   replace s := s.add 104 (rdF Rep.str (cellsOfL [vT super_]) ([super_])) (RdAll.cons (by exact ⟨q, (by omega)⟩) (rN))
   replace s := s.al 103 104 q
   replace s := s.pk [(1000, 1000), (1102, 1102), (700102, 1301)] (by decide)
   exact ⟨([super_]), (some ⟨t0, 0, none⟩), (1), (cellsOfL [vT super_]), hg, (s.sb q q q)⟩
  replace hg := br_f hg o0
  apply wp_skip
  apply pN
  replace s := s.nilRow 700102 9 1 q
  replace s := s.add 103 (rdF Rep.str [] []) (rN)
  exact ⟨([]), (none), (0), ([]), hg, (s.sb q q q)⟩
 clear s a; rintro a w ⟨a0, A7, c8, g0, hg, s⟩
 subst M0
 refine S s<|sw<|vw<|aw q<|nw fun a s => ?_
 obtain ⟨D0, hg, L0⟩ := zJ hg
 refine c_post (fun a w => ∃ (h0 : (List FeatDecl)) (A15 : OA) (j0 : Nat) (n0 : List Value), D0 h0 = some r ∧ St (cx f60 M w0) [(6, vP b2 0), (7, vP b4 0)] [(1000, Ob.box b2 [vT ([]), nS, nS] 49), (1102, Ob.box b4 [vT name_, sl A7 a0 c8, sl A15 h0 j0] 49), (700102, Ob.row (A7) ((a0).length) (c8) 9 1 (g0)), (700105, Ob.row (A15) ((h0).length) (j0) 82 2 (n0))] [(103, rdF Rep.str (g0) (a0)), (106, rdF RFeatDecl (n0) (h0))] a w) ?_ ?_
 ·apply wp_block
  replace s := s.nilRow 700107 82 2 q
  replace s := s.add 108 (rdF RFeatDecl [] []) (rN)
  refine c_loop (σ := Nat) (fun m1 a w => ∃ (b0 : Nat) (e0 : (List FeatDecl)) (A20 : OA) (m0 : Nat) (l0 : List Value), r06_decl_L0 n feats_ D0 m1 b0 e0 = some r ∧ St (cx f60 M w0) [(2, sl i0 feats_ k0), (6, vP b2 0), (7, vP b4 0), (8, vI (((b0 : Nat) : Int)))] [(1000, Ob.box b2 [vT ([]), nS, nS] 49), (1102, Ob.box b4 [vT name_, sl A7 a0 c8, sl A20 e0 m0] 49), (700102, Ob.row (A7) ((a0).length) (c8) 9 1 (g0)), (700107, Ob.row (A20) ((e0).length) (m0) 82 2 (l0))] [(101, sF Rep.str i0 k0 feats_), (103, rdF Rep.str (g0) (a0)), (108, rdF RFeatDecl (l0) (e0))] a w) (fun m1 => m1) n ⟨(0), ([]), (none), (0), ([]), hg, (s.sb q q q)⟩ ?_
  clear s a; rintro m1 a w ⟨b0, e0, A20, m0, l0, hg, s⟩
  rcases m1 with _ | m1
  ·rw [r06_decl_L0] at hg; cases hg
  rw [r06_decl_L0] at hg
  obtain ⟨Z0, hg⟩ := zC hg
  refine S s<|sw<|sw<|lw<|mw q<|yw q (y_addN (i := b0) (j := 1) · q q (in64.2 (by omega)))<|mw q<|yw q (lS · q u25)<|yw q (y_lssN (i := (b0 + 1)) (j := ((feats_).length)) · q q)<|nw fun a s => c_dec s q (fun p0 => ?_) (fun p0 => ?_)
  ·replace hg := br_t hg p0
   have b1 := SlR.mx (s.ft 101 q)
   obtain ⟨c0, B0, hg⟩ := zB hg
   obtain ⟨d0, C0, hg⟩ := zB hg
   obtain ⟨z0, hg⟩ := zC hg
   refine S s<|kw<|pw<|sw<|bw fun a s => ?_
   refine d_plan s [(13, 700107), (15, 1102)] [(0, some 0), (1, some 1102), (2, some 0), (3, some 0), (4, some 0), (5, some 0), (6, some 0), (7, some 0), (8, some 0), (9, some 0), (10, some 0), (11, some 0), (12, none), (13, none), (14, none), (15, none)] q (by kernel_rfl) (by kernel_rfl) q ?_; clear s; intro wr hZ s; have hR := s.wd
   refine S s<|qw hR q (bF 2 · u49 q)<|qw hR q (lB 1102 · u47 q)<|qw hR q (mo · q)<|qw hR q (mo · q) fun a s => ?_
   obtain ⟨h1, J0, O0, Q0, V0, H0, F0⟩ := SlR.elemX (s.ft 101 q) B0
   refine qt s hR q (eL 1 b0 s u25 J0 (lt_of_get B0) q) fun a s => ?_
   obtain ⟨rfl, e1⟩ := H0
   refine S s<|qw hR q (lP · O0 Q0 (F0 0 _ q) u9 q)<|qw hR q (mo · q)<|qw hR q (mo · q)<|qw hR q (y_addN (i := b0) (j := 1) · q q (in64.2 (by omega))) fun a s => ?_
   obtain ⟨i1, K0, P0, R0, X0, I0, G0⟩ := SlR.elemX (s.ft 101 q) C0
   refine qt s hR q (y_elem (sz := 1) (i := (b0 + 1)) s q q u25 q K0 q (lt_of_get C0)) fun a s => ?_
   obtain ⟨rfl, g1⟩ := I0
   refine S s<|qw hR q (lP · P0 R0 (G0 0 _ q) u9 q)<|qw hR q (y_build (parts := [(0, .tmp 28), (1, .tmp 33)]) (ps := [(0, vT c0), (1, vT d0)]) (cells := #[vT c0, vT d0]) · q (by kernel_rfl)) fun a s => ?_
   refine l_take s q q (l_buildDense (sz := 2) s 1712 q q q u47 q q q q q q q fun U0 a w y0 hK s => ?_)
   have Y0 := NewA.lit hZ y0
   clear y0
   refine gz hZ hK fun hZ => ?_; clear hK
   replace s := s.add 111 (rdF RFeatDecl (cellsOfL [.agg #[_, _]]) ([(FeatDecl.mk c0 d0)])) (RdAll.cons (by exact (RFeatDecl.mk' (x := (FeatDecl.mk c0 d0)) (by omega) (by omega))) (rN))
   have T0 := row_src (s.wd.holds 1712 _ q) (RdAll.one (s.ft 111 q))
   refine l_take s q q (l_append (sz := 2) (by_ := 32) (N := (e0 ++ [(FeatDecl.mk c0 d0)]).length) s 700107 q q q u47 q q q q q T0 (by rw [List.length_append]; try rfl) q (rmA z0 q) (rmB z0) q fun s0 x0 a w hA hK s => ?_)
   replace hZ := Nat.le_trans hZ hK.size; refine ⟨fun g hg h => h.obj hR (kk := 700107) q hK (by rintro rfl; exact absurd hg (by decide)), ?_⟩
   replace s := s.add 112 (rdF RFeatDecl (l0 ++ (cellsOfL [.agg #[vT c0, vT d0]])) (e0 ++ [(FeatDecl.mk c0 d0)])) (RdAll.append (s.ft 108 q) (s.ft 111 q))
   refine S s<|tw q (bF 2 · u49 q) fun a s => ?_
   refine l_take s q q (l_store (n := 1) (cs' := [vT name_, sl A7 a0 c8, sl s0 (e0 ++ [(FeatDecl.mk c0 d0)]) x0]) s 1102 q q q q q q q q ?_); clear s; intro w hK s; replace hZ := Nat.le_trans hZ hK.size
   refine ⟨fun g hg h => h.obj hR (kk := 1102) q hK (by rintro rfl; exact absurd hg (by decide)), ?_⟩; clear hK
   clear hR hZ
   refine p_inN ?_
   obtain ⟨a1, hg⟩ := zC hg
   refine S s<|pw<|lw<|mw q<|yw q (y_addN (i := b0) (j := 2) · q q (in64.2 (by omega)))<|aw q<|nw<|alw 108 112 q fun a s => ?_
   exact ⟨m1, Nat.lt_succ_self _, ⟨(b0 + 2), (e0 ++ [(FeatDecl.mk c0 d0)]), (s0), (x0), (l0 ++ (cellsOfL [.agg #[vT c0, vT d0]])), hg, (s.sb q q q)⟩⟩
  replace hg := br_f hg p0
  apply wp_exit
  refine p_then ?_
  refine p_then ?_
  refine p_in ?_
  apply pN
  replace s := s.al 106 108 q
  replace s := s.pk [(1000, 1000), (1102, 1102), (700102, 700102), (700105, 700107)] (by decide)
  exact ⟨(e0), (A20), (m0), (l0), hg, (s.sb q q q)⟩
 clear s a; rintro a w ⟨h0, A15, j0, n0, hg, s⟩
 subst L0
 apply wR
 refine qq s q (y_loadAll (kk := 1102) s q q u49 q q) fun a s => ?_
 refine l_seq q (l_store (n := 3) (cs' := [vT name_, sl A7 a0 c8, sl A15 h0 j0]) s 1000 q q q q q q q q ?_); clear s; intro w hK s; clear hK
 apply wN
 apply wp_ret
 obtain rfl := si hg
 refine fin1 (fn := Tryz.f60) s q (r_cell (kk := 1000) (n := 3) (vs := [vT name_, sl A7 a0 c8, sl A15 h0 j0]) s q q u49 q q q q) ?_
 exact ⟨(A7), (c8), (A15), (j0), q, (by omega), (s.rowOut (R := Rep.str) (kk := 700102) q q (s.ft 103 q)), (s.rowOut (R := RFeatDecl) (kk := 700105) q q (s.ft 106 q))⟩
theorem c_r06_Prelude (n : Nat) (M : Bs) (w0 : World) (hM : bM M w0)  (r : (List TypeDecl)) (hg : r06_Prelude n = some r) :
    CA Tryz.prog 34 [] w0 (fun v w => ∃ (a0 : OA), ∃ (b0 : Nat), v = sl a0 r b0 ∧ (SlR RTypeDecl M w a0 (r).length b0 (r))) := by
 unfold r06_Prelude at hg
 refine enter M noB func34 q q hM ?_
 intro a s
 obtain ⟨r1, D0, hg⟩ := zB hg
 obtain ⟨r4, O0, hg⟩ := zB hg
 obtain ⟨r8, Q0, hg⟩ := zB hg
 obtain ⟨c0, E0, hg⟩ := zB hg
 obtain ⟨d0, F0, hg⟩ := zB hg
 obtain ⟨e0, G0, hg⟩ := zB hg
 obtain ⟨g0, H0, hg⟩ := zB hg
 obtain ⟨h0, I0, hg⟩ := zB hg
 obtain ⟨i0, J0, hg⟩ := zB hg
 obtain ⟨j0, K0, hg⟩ := zB hg
 obtain ⟨k0, L0, hg⟩ := zB hg
 obtain ⟨l0, M0, hg⟩ := zB hg
 obtain ⟨m0, P0, hg⟩ := zB hg
 refine S s<|vw<|aw q<|nw<|sw<|lw fun a s => ?_
 refine lC s q func60 (c_r06_decl n _ _ s.lt _ lz _ lz [] (none) (0) (SlR.nil_ _ _ _) _ D0) fun M2 a w hK hp s => ?_
 obtain ⟨u1, X1, v1, Y1, rfl, y2, R0, S0⟩ := hp
 replace s := s.ns 139 R0 |>.ns 140 S0
 refine lC s q func60 (c_r06_decl n _ _ s.lt _ lz _ lz [] (none) (0) (SlR.nil_ _ _ _) _ O0) fun O2 a w hK hp s => ?_
 obtain ⟨w1, Z1, x1, a2, rfl, z2, T0, U0⟩ := hp
 replace s := s.ns 141 T0 |>.ns 142 U0
 refine l_seq q (l_buildDense (sz := 1) s 1102 q q q u25 q q q q q q q fun n0 a w u0 hK s => ?_)
 clear u0
 replace s := s.add 143 (rdF Rep.str (cellsOfL [vT ([70, 73, 82, 83, 84]), vT ([116, 111, 112]), vT ([82, 69, 83, 84]), vT ([108, 105, 115, 116])]) ([[70, 73, 82, 83, 84], [116, 111, 112], [82, 69, 83, 84], [108, 105, 115, 116]])) (RdAll.cons (by exact ⟨q, lz⟩) (RdAll.cons (by exact ⟨q, lz⟩) (RdAll.cons (by exact ⟨q, lz⟩) (RdAll.cons (by exact ⟨q, lz⟩) (rN)))))
 replace s := s.freeze (R := Rep.str) (kk := 1102) (L' := []) 144 q q (s.ft 143 q) trivial q
 refine lC s q func60 (c_r06_decl n _ _ s.lt _ lz _ lz [[70, 73, 82, 83, 84], [116, 111, 112], [82, 69, 83, 84], [108, 105, 115, 116]] (some ⟨n0, 0, none⟩) (4) (s.ft 144 q) _ Q0) fun P2 a w hK hp s => ?_
 obtain ⟨y1, b2, z1, c2, rfl, B2, V0, X0⟩ := hp
 replace s := s.ns 145 V0 |>.ns 146 X0
 refine lC s q func60 (c_r06_decl n _ _ s.lt _ lz _ lz [] (none) (0) (SlR.nil_ _ _ _) _ E0) fun Q2 a w hK hp s => ?_
 obtain ⟨B1, d2, C1, e2, rfl, C2, Y0, Z0⟩ := hp
 replace s := s.ns 147 Y0 |>.ns 148 Z0
 refine l_seq q (l_buildDense (sz := 1) s 1105 q q q u25 q q q q q q q fun o0 a w v0 hK s => ?_)
 clear v0
 replace s := s.add 149 (rdF Rep.str (cellsOfL [vT ([76, 73, 83, 84]), vT ([108, 105, 115, 116]), vT ([76, 65, 83, 84]), vT ([108, 105, 115, 116])]) ([[76, 73, 83, 84], [108, 105, 115, 116], [76, 65, 83, 84], [108, 105, 115, 116]])) (RdAll.cons (by exact ⟨q, lz⟩) (RdAll.cons (by exact ⟨q, lz⟩) (RdAll.cons (by exact ⟨q, lz⟩) (RdAll.cons (by exact ⟨q, lz⟩) (rN)))))
 replace s := s.freeze (R := Rep.str) (kk := 1105) (L' := []) 150 q q (s.ft 149 q) trivial q
 refine lC s q func60 (c_r06_decl n _ _ s.lt _ lz _ lz [[76, 73, 83, 84], [108, 105, 115, 116], [76, 65, 83, 84], [108, 105, 115, 116]] (some ⟨o0, 0, none⟩) (4) (s.ft 150 q) _ F0) fun R2 a w hK hp s => ?_
 obtain ⟨D1, g2, E1, h2, rfl, D2, a1, b1⟩ := hp
 replace s := s.ns 151 a1 |>.ns 152 b1
 refine lC s q func60 (c_r06_decl n _ _ s.lt _ lz _ lz [] (none) (0) (SlR.nil_ _ _ _) _ G0) fun S2 a w hK hp s => ?_
 obtain ⟨F1, i2, G1, j2, rfl, E2, c1, d1⟩ := hp
 replace s := s.ns 153 c1 |>.ns 154 d1
 refine lC s q func60 (c_r06_decl n _ _ s.lt _ lz _ lz [] (none) (0) (SlR.nil_ _ _ _) _ H0) fun T2 a w hK hp s => ?_
 obtain ⟨H1, k2, I1, l2, rfl, F2, e1, g1⟩ := hp
 replace s := s.ns 155 e1 |>.ns 156 g1
 refine lC s q func60 (c_r06_decl n _ _ s.lt _ lz _ lz [] (none) (0) (SlR.nil_ _ _ _) _ I0) fun U2 a w hK hp s => ?_
 obtain ⟨J1, m2, K1, n2, rfl, G2, h1, i1⟩ := hp
 replace s := s.ns 157 h1 |>.ns 158 i1
 refine lC s q func60 (c_r06_decl n _ _ s.lt _ lz _ lz [] (none) (0) (SlR.nil_ _ _ _) _ J0) fun V2 a w hK hp s => ?_
 obtain ⟨L1, o2, M1, p2, rfl, H2, j1, k1⟩ := hp
 replace s := s.ns 159 j1 |>.ns 160 k1
 refine l_seq q (l_buildDense (sz := 1) s 1111 q q q u25 q q q q q q q fun p0 a w x0 hK s => ?_)
 clear x0
 replace s := s.add 161 (rdF Rep.str (cellsOfL [vT ([76, 65, 66, 69, 76]), vT ([104, 97, 110, 100, 108, 101])]) ([[76, 65, 66, 69, 76], [104, 97, 110, 100, 108, 101]])) (RdAll.cons (by exact ⟨q, lz⟩) (RdAll.cons (by exact ⟨q, lz⟩) (rN)))
 replace s := s.freeze (R := Rep.str) (kk := 1111) (L' := []) 162 q q (s.ft 161 q) trivial q
 refine lC s q func60 (c_r06_decl n _ _ s.lt _ lz _ lz [[76, 65, 66, 69, 76], [104, 97, 110, 100, 108, 101]] (some ⟨p0, 0, none⟩) (2) (s.ft 162 q) _ K0) fun X2 a w hK hp s => ?_
 obtain ⟨O1, q2, P1, r2, rfl, I2, l1, m1⟩ := hp
 replace s := s.ns 163 l1 |>.ns 164 m1
 refine l_seq q (l_buildDense (sz := 1) s 1113 q q q u25 q q q q q q q fun q0 a w y0 hK s => ?_)
 clear y0
 replace s := s.add 165 (rdF Rep.str (cellsOfL [vT ([72, 73, 71, 72]), vT ([104, 97, 110, 100, 108, 101]), vT ([76, 79, 87]), vT ([104, 97, 110, 100, 108, 101])]) ([[72, 73, 71, 72], [104, 97, 110, 100, 108, 101], [76, 79, 87], [104, 97, 110, 100, 108, 101]])) (RdAll.cons (by exact ⟨q, lz⟩) (RdAll.cons (by exact ⟨q, lz⟩) (RdAll.cons (by exact ⟨q, lz⟩) (RdAll.cons (by exact ⟨q, lz⟩) (rN)))))
 replace s := s.freeze (R := Rep.str) (kk := 1113) (L' := []) 166 q q (s.ft 165 q) trivial q
 refine lC s q func60 (c_r06_decl n _ _ s.lt _ lz _ lz [[72, 73, 71, 72], [104, 97, 110, 100, 108, 101], [76, 79, 87], [104, 97, 110, 100, 108, 101]] (some ⟨q0, 0, none⟩) (4) (s.ft 166 q) _ L0) fun Y2 a w hK hp s => ?_
 obtain ⟨Q1, s2, R1, t2, rfl, J2, n1, o1⟩ := hp
 replace s := s.ns 167 n1 |>.ns 168 o1
 refine l_seq q (l_buildDense (sz := 1) s 1115 q q q u25 q q q q q q q fun r0 a w z0 hK s => ?_)
 clear z0
 replace s := s.add 169 (rdF Rep.str (cellsOfL [vT ([84, 79, 80]), vT ([104, 97, 110, 100, 108, 101]), vT ([73, 78, 68, 69, 88]), vT ([105, 110, 100, 101, 120]), vT ([82, 69, 76, 83]), vT ([100, 108, 105, 115, 116]), vT ([67, 79, 78, 83]), vT ([100, 108, 105, 115, 116])]) ([[84, 79, 80], [104, 97, 110, 100, 108, 101], [73, 78, 68, 69, 88], [105, 110, 100, 101, 120], [82, 69, 76, 83], [100, 108, 105, 115, 116], [67, 79, 78, 83], [100, 108, 105, 115, 116]])) (RdAll.cons (by exact ⟨q, lz⟩) (RdAll.cons (by exact ⟨q, lz⟩) (RdAll.cons (by exact ⟨q, lz⟩) (RdAll.cons (by exact ⟨q, lz⟩) (RdAll.cons (by exact ⟨q, lz⟩) (RdAll.cons (by exact ⟨q, lz⟩) (RdAll.cons (by exact ⟨q, lz⟩) (RdAll.cons (by exact ⟨q, lz⟩) (rN)))))))))
 replace s := s.freeze (R := Rep.str) (kk := 1115) (L' := []) 170 q q (s.ft 169 q) trivial q
 refine lC s q func60 (c_r06_decl n _ _ s.lt _ lz _ lz [[84, 79, 80], [104, 97, 110, 100, 108, 101], [73, 78, 68, 69, 88], [105, 110, 100, 101, 120], [82, 69, 76, 83], [100, 108, 105, 115, 116], [67, 79, 78, 83], [100, 108, 105, 115, 116]] (some ⟨r0, 0, none⟩) (8) (s.ft 170 q) _ M0) fun Z2 a w hK hp s => ?_
 obtain ⟨S1, u2, T1, v2, rfl, K2, p1, q1⟩ := hp
 replace s := s.ns 171 p1 |>.ns 172 q1
 refine l_seq q (l_buildDense (sz := 1) s 1117 q q q u25 q q q q q q q fun s0 a w B0 hK s => ?_)
 clear B0
 replace s := s.add 173 (rdF Rep.str (cellsOfL [vT ([83, 69, 77]), vT ([115, 101, 109]), vT ([65, 82, 71, 83]), vT ([108, 105, 115, 116])]) ([[83, 69, 77], [115, 101, 109], [65, 82, 71, 83], [108, 105, 115, 116]])) (RdAll.cons (by exact ⟨q, lz⟩) (RdAll.cons (by exact ⟨q, lz⟩) (RdAll.cons (by exact ⟨q, lz⟩) (RdAll.cons (by exact ⟨q, lz⟩) (rN)))))
 replace s := s.freeze (R := Rep.str) (kk := 1117) (L' := []) 174 q q (s.ft 173 q) trivial q
 refine lC s q func60 (c_r06_decl n _ _ s.lt _ lz _ lz [[83, 69, 77], [115, 101, 109], [65, 82, 71, 83], [108, 105, 115, 116]] (some ⟨s0, 0, none⟩) (4) (s.ft 174 q) _ P0) fun a3 a w hK hp s => ?_
 obtain ⟨U1, w2, V1, x2, rfl, L2, s1, t1⟩ := hp
 replace s := s.ns 175 s1 |>.ns 176 t1
 refine l_seq q (l_buildDense (sz := 3) s 1119 q q q u32 q q q q q q q fun t0 a w C0 hK s => ?_)
 clear C0
 refine S s<|aw q<|nw fun a s => ?_
 apply wp_ret
 obtain rfl := si hg
 refine fin1 (fn := Tryz.f34) s q (r_tmp s q) ?_
 replace s := s.add 177 (rdF RTypeDecl (cellsOfL [.agg #[_, _, _], .agg #[_, _, _], .agg #[_, _, _], .agg #[_, _, _], .agg #[_, _, _], .agg #[_, _, _], .agg #[_, _, _], .agg #[_, _, _], .agg #[_, _, _], .agg #[_, _, _], .agg #[_, _, _], .agg #[_, _, _], .agg #[_, _, _]]) ([r1, r4, r8, c0, d0, e0, g0, h0, i0, j0, k0, l0, m0])) (RdAll.cons (by exact (RTypeDecl.mk' (x := r1) (by omega) (s.ft 139 q) (s.ft 140 q))) (RdAll.cons (by exact (RTypeDecl.mk' (x := r4) (by omega) (s.ft 141 q) (s.ft 142 q))) (RdAll.cons (by exact (RTypeDecl.mk' (x := r8) (by omega) (s.ft 145 q) (s.ft 146 q))) (RdAll.cons (by exact (RTypeDecl.mk' (x := c0) (by omega) (s.ft 147 q) (s.ft 148 q))) (RdAll.cons (by exact (RTypeDecl.mk' (x := d0) (by omega) (s.ft 151 q) (s.ft 152 q))) (RdAll.cons (by exact (RTypeDecl.mk' (x := e0) (by omega) (s.ft 153 q) (s.ft 154 q))) (RdAll.cons (by exact (RTypeDecl.mk' (x := g0) (by omega) (s.ft 155 q) (s.ft 156 q))) (RdAll.cons (by exact (RTypeDecl.mk' (x := h0) (by omega) (s.ft 157 q) (s.ft 158 q))) (RdAll.cons (by exact (RTypeDecl.mk' (x := i0) (by omega) (s.ft 159 q) (s.ft 160 q))) (RdAll.cons (by exact (RTypeDecl.mk' (x := j0) (by omega) (s.ft 163 q) (s.ft 164 q))) (RdAll.cons (by exact (RTypeDecl.mk' (x := k0) (by omega) (s.ft 167 q) (s.ft 168 q))) (RdAll.cons (by exact (RTypeDecl.mk' (x := l0) (by omega) (s.ft 171 q) (s.ft 172 q))) (RdAll.cons (by exact (RTypeDecl.mk' (x := m0) (by omega) (s.ft 175 q) (s.ft 176 q))) (rN))))))))))))))
 exact ⟨(some ⟨t0, 0, none⟩), (13), q, (s.rowOut (R := RTypeDecl) (kk := 1119) q q (s.ft 177 q))⟩
theorem c_r19_With (n : Nat) (M : Bs) (w0 : World) (hM : bM M w0) (l_ : (List (List UInt8))) (c0 : OA) (d0 : Nat) (e1 : sR Rep.str M w0 c0 d0 l_) (s_ : (List UInt8)) (v1 : (s_).length ≤ 9223372036854775807) (r : (List (List UInt8))) (hg : r19_With n l_ s_ = some r) :
    CA Tryz.prog 35 [sl c0 l_ d0, vT s_] w0 (fun v w => ∃ (t0 : OA), ∃ (u0 : Nat), v = sl t0 r u0 ∧ (SlR Rep.str M w t0 (r).length u0 (r))) := by
 unfold r19_With at hg
 refine enter M noB func35 q q hM ?_
 intro a s
 refine S s<|esw 101 e1<|vw<|aw q<|nw<|vw<|aw q<|nw<|vw<|aw q<|nw<|sw<|vw<|aw q<|nw fun a s => ?_
 obtain ⟨k1, hg, U0⟩ := zJ hg
 refine c_post (fun a w => ∃ (out_2 : (List (List UInt8))) (n0 : Bool) (A3 : OA) (c4 : Nat) (l0 : List Value), k1 out_2 n0 = some r ∧ St (cx f35 M w0) [(1, vT s_), (5, sl A3 out_2 c4), (6, .bool (n0))] [(700102, Ob.row (A3) ((out_2).length) (c4) 9 1 (l0))] [(103, rdF Rep.str (l0) (out_2))] a w) ?_ ?_
 ·apply wp_block
  replace s := s.nilRow 700104 9 1 q
  replace s := s.add 105 (rdF Rep.str [] []) (rN)
  refine c_loop (σ := Nat) (fun m1 a w => ∃ (out_7 : (List (List UInt8))) (e0 : Bool) (a0 : Nat) (A8 : OA) (c9 : Nat) (b0 : List Value), r19_With_L0 n l_ s_ k1 m1 out_7 e0 a0 = some r ∧ St (cx f35 M w0) [(0, sl c0 l_ d0), (1, vT s_), (5, sl A8 out_7 c9), (6, .bool (e0)), (7, vI (((a0 : Nat) : Int)))] [(700104, Ob.row (A8) ((out_7).length) (c9) 9 1 (b0))] [(101, sF Rep.str c0 d0 l_), (105, rdF Rep.str (b0) (out_7))] a w) (fun m1 => m1) n ⟨([]), (false), (0), (none), (0), ([]), hg, (s.sb q q q)⟩ ?_
  clear s a; rintro m1 a w ⟨out_7, e0, a0, A8, c9, b0, hg, s⟩
  rcases m1 with _ | m1
  ·rw [r19_With_L0] at hg; cases hg
  rw [r19_With_L0] at hg
  refine S s<|sw<|vw<|mw q<|mw q<|yw q (lS · q u25)<|yw q (y_lssN (i := a0) (j := ((l_).length)) · q q)<|nw fun a s => c_dec s q (fun o0 => ?_) (fun o0 => ?_)
  ·replace hg := br_t hg o0
   have u1 := SlR.mx (s.ft 101 q)
   refine S s<|kw<|pw<|sw<|bw<|sw<|sw fun a s => ?_
   obtain ⟨j1, hg, V0⟩ := zJ hg
   refine c_post (fun a w => ∃ (s0 : Bool), j1 s0 = some r ∧ St (cx f35 M w0) [(0, sl c0 l_ d0), (1, vT s_), (5, sl A8 out_7 c9), (6, .bool (e0)), (7, vI (((a0 : Nat) : Int))), (23, .bool (s0))] [(700104, Ob.row (A8) ((out_7).length) (c9) 9 1 (b0))] [(101, sF Rep.str c0 d0 l_), (105, rdF Rep.str (b0) (out_7))] a w) ?_ ?_
   ·rcases Bool.eq_false_or_eq_true (!(e0)) with j0 | j0
    ·replace hg := br_t hg j0
     obtain ⟨n1, z0, hg⟩ := zB hg
     refine S s<|lw<|mw q<|yw q (fun s => yl_b (y_not s q) j0)<|mw q<|hw q<|hw q fun a s => ?_
     obtain ⟨z1, R0, Y0, b1, r1, O0, K0⟩ := SlR.elemX (s.ft 101 q) z0
     refine gy s q (eL 1 a0 s u25 R0 (lt_of_get z0) q) fun a s => ?_
     obtain ⟨rfl, w1⟩ := O0
     refine S s<|zw q (lP · Y0 b1 (K0 0 _ q) u9 q)<|hw q<|zw q (y_sgeq · q q)<|tw_ q<|nw fun a s => ?_
     exact ⟨(!(Op.bytesLess n1 s_)), hg, (s.sb q q q)⟩
    replace hg := br_n hg j0
    refine S s<|lw<|mw q<|yw q (fun s => yl_b (y_not s q) j0)<|mw q<|gw q<|gw q<|gw q<|gw q<|gw q<|gw q<|fw q<|nw fun a s => ?_
    exact ⟨(false), hg, (s.sb q q q)⟩
   clear s a; rintro a w ⟨s0, hg, s⟩
   subst V0
   obtain ⟨l1, hg, X0⟩ := zJ hg
   refine c_post (fun a w => ∃ (out_24 : (List (List UInt8))) (i0 : Bool) (A25 : OA) (k0 : Nat) (h0 : List Value), l1 out_24 i0 = some r ∧ St (cx f35 M w0) [(0, sl c0 l_ d0), (1, vT s_), (5, sl A25 out_24 k0), (6, .bool (i0)), (7, vI (((a0 : Nat) : Int)))] [(700106, Ob.row (A25) ((out_24).length) (k0) 9 1 (h0))] [(101, sF Rep.str c0 d0 l_), (107, rdF Rep.str (h0) (out_24))] a w) ?_ ?_
   ·refine c_cond s q (fun p0 => ?_) (fun p0 => ?_)
    ·replace hg := br_t hg p0
     obtain ⟨v0, hg⟩ := zC hg
     refine S s<|sw<|lw<|mw q<|mw q fun a s => ?_
     refine l_seq q (l_buildDense (sz := 1) s 1702 q q q u25 q q q q q q q fun o1 a w H0 hK s => ?_)
     clear H0
     replace s := s.add 110 (rdF Rep.str (cellsOfL [vT s_]) ([s_])) (RdAll.cons (by exact ⟨q, (by omega)⟩) (rN))
     have g1 := row_src (s.wd.holds 1702 _ q) (RdAll.one (s.ft 110 q))
     refine l_seq q (l_append (sz := 1) (by_ := 16) (N := (out_7 ++ [s_]).length) s 700104 q q q u25 q q q q q g1 (by rw [List.length_append]; try rfl) q (rmA v0 q) (rmB v0) q fun B0 E0 a w hA hK s => ?_)
     replace s := s.add 111 (rdF Rep.str (b0 ++ (cellsOfL [vT s_])) (out_7 ++ [s_])) (RdAll.append (s.ft 105 q) (s.ft 110 q))
     refine S s<|aw q<|nw<|lw<|aw q<|nw<|alw 107 111 q fun a s => ?_
     replace s := s.pk [(1702, 1702), (700106, 700104)] (by decide)
     exact ⟨(out_7 ++ [s_]), (true), (B0), (E0), (b0 ++ (cellsOfL [vT s_])), hg, (s.sb q q q)⟩
    replace hg := br_n hg p0
    refine S s<|kw<|pw<|alw 107 105 q fun a s => ?_
    replace s := s.pk [(700106, 700104)] (by decide)
    exact ⟨(out_7), (e0), (A8), (c9), (b0), hg, (s.sb q q q)⟩
   clear s a; rintro a w ⟨out_24, i0, A25, k0, h0, hg, s⟩
   subst X0
   obtain ⟨g0, m0, hg⟩ := zB hg
   refine S s<|sw<|lw<|mw q<|mw q fun a s => ?_
   obtain ⟨B1, S0, Z0, c1, s1, P0, L0⟩ := SlR.elemX (s.ft 101 q) m0
   refine qq s q (eL 1 a0 s u25 S0 (lt_of_get m0) q) fun a s => ?_
   obtain ⟨rfl, x1⟩ := P0
   refine S s<|yw q (lP · Z0 c1 (L0 0 _ q) u9 q)<|mw q<|yw q (y_sne · q q)<|nw fun a s => c_dec s q (fun q0 => ?_) (fun q0 => ?_)
   ·replace hg := br_t hg q0
    obtain ⟨x0, hg⟩ := zC hg
    refine S s<|lw<|mw q<|mw q<|mw q fun a s => ?_
    obtain ⟨C1, T0, a1, d1, t1, Q0, M0⟩ := SlR.elemX (s.ft 101 q) m0
    refine qq s q (eL 1 a0 s u25 T0 (lt_of_get m0) q) fun a s => ?_
    obtain ⟨rfl, y1⟩ := Q0
    refine qq s q (lP s a1 d1 (M0 0 _ q) u9 q) fun a s => ?_
    refine l_seq q (l_buildDense (sz := 1) s 2005 q q q u25 q q q q q q q fun p1 a w I0 hK s => ?_)
    clear I0
    replace s := s.add 114 (rdF Rep.str (cellsOfL [vT g0]) ([g0])) (RdAll.cons (by exact ⟨q, (by omega)⟩) (rN))
    have h1 := row_src (s.wd.holds 2005 _ q) (RdAll.one (s.ft 114 q))
    refine l_seq q (l_append (sz := 1) (by_ := 16) (N := (out_24 ++ [g0]).length) s 700106 q q q u25 q q q q q h1 (by rw [List.length_append]; try rfl) q (rmA x0 q) (rmB x0) q fun C0 F0 a w hA hK s => ?_)
    replace s := s.add 115 (rdF Rep.str (h0 ++ (cellsOfL [vT g0])) (out_24 ++ [g0])) (RdAll.append (s.ft 107 q) (s.ft 114 q))
    refine asg s q q fun a s => ?_
    apply wO
    refine p_inN ?_
    refine S s<|pw<|lw<|mw q<|yw q (y_addN (i := a0) (j := 1) · q q (in64.2 (by omega)))<|aw q<|nw<|alw 105 115 q fun a s => ?_
    replace s := s.pk [(2005, 2005), (700104, 700106)] (by decide)
    exact ⟨m1, Nat.lt_succ_self _, ⟨(out_24 ++ [g0]), (i0), (a0 + 1), (C0), (F0), (h0 ++ (cellsOfL [vT g0])), hg, (s.sb q q q)⟩⟩
   replace hg := br_f hg q0
   apply wp_skip
   refine p_inN ?_
   refine S s<|pw<|lw<|mw q<|yw q (y_addN (i := a0) (j := 1) · q q (in64.2 (by omega)))<|aw q<|nw<|alw 105 107 q fun a s => ?_
   replace s := s.pk [(700104, 700106)] (by decide)
   exact ⟨m1, Nat.lt_succ_self _, ⟨(out_24), (i0), (a0 + 1), (A25), (k0), (h0), hg, (s.sb q q q)⟩⟩
  replace hg := br_f hg o0
  apply wp_exit
  refine p_then ?_
  refine p_then ?_
  refine p_in ?_
  apply pN
  replace s := s.al 103 105 q
  replace s := s.pk [(700102, 700104)] (by decide)
  exact ⟨(out_7), (e0), (A8), (c9), (b0), hg, (s.sb q q q)⟩
 clear s a; rintro a w ⟨out_2, n0, A3, c4, l0, hg, s⟩
 subst U0
 refine S s<|sw<|vw<|mw q<|yw q (y_not · q)<|nw fun a s => c_cond s q (fun r0 => ?_) (fun r0 => ?_)
 ·replace hg := br_t hg r0
  obtain ⟨y0, hg⟩ := zC hg
  refine S s<|lw<|mw q<|mw q fun a s => ?_
  refine l_seq q (l_buildDense (sz := 1) s 2202 q q q u25 q q q q q q q fun q1 a w J0 hK s => ?_)
  clear J0
  replace s := s.add 118 (rdF Rep.str (cellsOfL [vT s_]) ([s_])) (RdAll.cons (by exact ⟨q, (by omega)⟩) (rN))
  have i1 := row_src (s.wd.holds 2202 _ q) (RdAll.one (s.ft 118 q))
  refine l_seq q (l_append (sz := 1) (by_ := 16) (N := (out_2 ++ [s_]).length) s 700102 q q q u25 q q q q q i1 (by rw [List.length_append]; try rfl) q (rmA y0 q) (rmB y0) q fun D0 G0 a w hA hK s => ?_)
  replace s := s.add 119 (rdF Rep.str (l0 ++ (cellsOfL [vT s_])) (out_2 ++ [s_])) (RdAll.append (s.ft 103 q) (s.ft 118 q))
  refine S s<|aw q<|nw<|vw<|mw q<|aw q<|nw fun a s => ?_
  apply wp_ret
  obtain rfl := si hg
  refine fin1 (fn := Tryz.f35) s q (r_tmp s q) ?_
  exact ⟨(D0), (G0), q, (s.rowOut (R := Rep.str) (kk := 700102) q q (s.ft 119 q))⟩
 replace hg := br_n hg r0
 refine S s<|kw<|pw<|vw<|mw q<|aw q<|nw fun a s => ?_
 apply wp_ret
 obtain rfl := si hg
 refine fin1 (fn := Tryz.f35) s q (r_tmp s q) ?_
 exact ⟨(A3), (c4), q, (s.rowOut (R := Rep.str) (kk := 700102) q q (s.ft 103 q))⟩
theorem c_r22_Visible (n : Nat) (M : Bs) (w0 : World) (hM : bM M w0) (t_ : (List Module)) (a0 : OA) (b0 : Nat) (X1 : sR RModule M w0 a0 b0 t_) (t_' : (List UInt8)) (s5 : (t_').length ≤ 9223372036854775807) (r : (List (List UInt8))) (hg : r22_Visible n t_ t_' = some r) :
    CA Tryz.prog 16 [sl a0 t_ b0, vT t_'] w0 (fun v w => ∃ (H0 : OA), ∃ (J0 : Nat), v = sl H0 r J0 ∧ (SlR Rep.str M w H0 (r).length J0 (r))) := by
 unfold r22_Visible at hg
 refine enter M noB func16 q q hM ?_
 intro a s
 obtain ⟨r1, T2, hg⟩ := zB hg
 refine S s<|esw 101 X1<|vw<|aw q<|nw<|vw<|aw q<|nw<|sw<|lw fun a s => ?_
 refine lC s q func34 (c_r06_Prelude n _ _ s.lt  _ T2) fun v4 a w hK hp s => ?_
 obtain ⟨I0, K0, rfl, d3⟩ := hp
 refine S s<|nsw 103 d3<|aw q<|nw<|sw<|vw<|aw q<|nw fun a s => ?_
 obtain ⟨k6, hg, D1⟩ := zJ hg
 refine c_post (fun a w => ∃ (t0 : (List (List UInt8))) (A8 : OA) (c9 : Nat), k6 t0 = some r ∧ St (cx f16 M w0) [(0, sl a0 t_ b0), (1, vT (t_')), (5, sl A8 t0 c9)] [] [(101, sF RModule a0 b0 t_), (104, sF Rep.str A8 c9 t0)] a w) ?_ ?_
 ·apply wp_block
  replace s := s.add 105 (slF Rep.str none 0 0 []) (SlR.nil_ _ _ _)
  refine c_loop (σ := Nat) (fun m1 a w => ∃ (p0 : (List (List UInt8))) (i0 : Nat) (A11 : OA) (v0 : Nat), r22_Visible_L0 n r1 k6 m1 p0 i0 = some r ∧ St (cx f16 M w0) [(0, sl a0 t_ b0), (1, vT (t_')), (5, sl A11 p0 v0), (6, sl I0 r1 K0), (7, vI (((i0 : Nat) : Int)))] [] [(101, sF RModule a0 b0 t_), (103, sF RTypeDecl I0 K0 r1), (105, sF Rep.str A11 v0 p0)] a w) (fun m1 => m1) n ⟨([]), (0), (none), (0), hg, (s.sb q q q)⟩ ?_
  clear s a; rintro m1 a w ⟨p0, i0, A11, v0, hg, s⟩
  rcases m1 with _ | m1
  ·rw [r22_Visible_L0] at hg; cases hg
  rw [r22_Visible_L0] at hg
  refine S s<|sw<|vw<|mw q<|mw q<|yw q (lS · q u32)<|yw q (y_lssN (i := i0) (j := ((r1).length)) · q q)<|nw fun a s => c_dec s q (fun C0 => ?_) (fun C0 => ?_)
  ·replace hg := br_t hg C0
   have o5 := SlR.mx (s.ft 103 q)
   obtain ⟨Q5, L0, hg⟩ := zB hg
   obtain ⟨g3, U2, hg⟩ := zB hg
   refine S s<|kw<|pw<|sw<|bw<|lw<|mw q<|mw q<|mw q fun a s => ?_
   obtain ⟨F5, u1, H1, Q1, i5, k1, b1⟩ := SlR.elemX (s.ft 103 q) L0
   refine S s<|yw q (eL 3 i0 · u32 u1 (lt_of_get L0) q)<|yw q (pF 0 · u49 q) fun a s => ?_
   obtain ⟨z3, x4, B3, y4, rfl, w5, l2, n2⟩ := RTypeDecl.open k1
   refine S s<|nsw 109 l2<|nsw 110 n2<|yw q (lP · H1 Q1 (b1 0 _ q) u9 q) fun a s => ?_
   refine lC s q func35 (c_r19_With n _ _ s.lt _ _ _ (s.ft 105 q) _ (by omega) _ U2) fun M5 a w hK hp s => ?_
   obtain ⟨T0, X0, rfl, b3⟩ := hp
   refine S s<|nsw 111 b3<|aw q fun a s => ?_
   apply wO
   refine p_inN ?_
   refine S s<|pw<|lw<|mw q<|yw q (y_addN (i := i0) (j := 1) · q q (in64.2 (by omega)))<|aw q<|nw<|alw 105 111 q fun a s => ?_
   exact ⟨m1, Nat.lt_succ_self _, ⟨(g3), (i0 + 1), (T0), (X0), hg, (s.sb q q q)⟩⟩
  replace hg := br_f hg C0
  apply wp_exit
  refine p_then ?_
  refine p_then ?_
  refine p_in ?_
  apply pN
  replace s := s.al 104 105 q
  exact ⟨(p0), (A11), (v0), hg, (s.sb q q q)⟩
 clear s a; rintro a w ⟨t0, A8, c9, hg, s⟩
 subst D1
 obtain ⟨c0, V2, hg⟩ := zB hg
 refine S s<|sw<|lw<|mw q<|mw q fun a s => ?_
 refine lC s q func21 (c_r22_Needs n _ _ s.lt _ _ _ (s.ft 101 q) _ (by omega) _ V2) fun O5 a w hK hp s => ?_
 obtain ⟨e0, g0, rfl, c3⟩ := hp
 refine S s<|nsw 113 c3<|aw q<|nw<|sw<|vw<|aw q<|nw<|bw<|alw 114 104 q fun a s => ?_
 refine c_loop (σ := Nat) (fun m2 a w => ∃ (o0 : (List (List UInt8))) (d0 : Nat) (A32 : OA) (l0 : Nat), r22_Visible_L1 n t_ c0 m2 o0 d0 = some r ∧ St (cx f16 M w0) [(0, sl a0 t_ b0), (5, sl A32 o0 l0), (8, sl e0 c0 g0), (9, vI (((d0 : Nat) : Int)))] [] [(101, sF RModule a0 b0 t_), (113, sF Rep.str e0 g0 c0), (114, sF Rep.str A32 l0 o0)] a w) (fun m2 => m2) n ⟨(t0), (0), (A8), (c9), hg, (s.sb q q q)⟩ ?_
 clear s a; rintro m2 a w ⟨o0, d0, A32, l0, hg, s⟩
 rcases m2 with _ | m2
 ·rw [r22_Visible_L1] at hg; cases hg
 rw [r22_Visible_L1] at hg
 refine S s<|sw<|vw<|mw q<|mw q<|yw q (lS · q u25)<|yw q (y_lssN (i := d0) (j := ((c0).length)) · q q)<|nw fun a s => c_dec s q (fun D0 => ?_) (fun D0 => ?_)
 ·replace hg := br_t hg D0
  have p5 := SlR.mx (s.ft 113 q)
  apply wp_skip
  apply pN
  apply wQ
  obtain ⟨Q0, hg, B1⟩ := zJ hg
  refine c_post (fun a w => ∃ (q0 : (List (List UInt8))) (A39 : OA) (x0 : Nat), Q0 q0 = some r ∧ St (cx f16 M w0) [(0, sl a0 t_ b0), (5, sl A39 q0 x0), (8, sl e0 c0 g0), (9, vI (((d0 : Nat) : Int)))] [] [(101, sF RModule a0 b0 t_), (113, sF Rep.str e0 g0 c0), (115, sF Rep.str A39 x0 q0)] a w) ?_ ?_
  ·obtain ⟨R5, M0, hg⟩ := zB hg
   obtain ⟨h0, X2, hg⟩ := zB hg
   refine S s<|bw<|sw<|lw<|mw q<|mw q<|mw q fun a s => ?_
   obtain ⟨G5, v1, I1, R1, j5, l1, c1⟩ := SlR.elemX (s.ft 113 q) M0
   refine qq s q (eL 1 d0 s u25 v1 (lt_of_get M0) q) fun a s => ?_
   obtain ⟨rfl, x5⟩ := l1
   refine qq s q (lP s I1 R1 (c1 0 _ q) u9 q) fun a s => ?_
   refine lV s q func28 (c_r22_find n _ _ s.lt _ _ _ (s.ft 101 q) _ (by omega) _ X2) fun a w hK s => ?_
   refine S s<|aw q<|nw<|sw<|vw<|mw q<|yw q (y_lss · q q)<|nw fun a s => c_dec s q (fun E0 => ?_) (fun E0 => ?_)
   ·replace hg := br_t hg E0
    apply wp_exit
    refine p_then ?_
    refine p_in ?_
    apply pN
    replace s := s.al 115 114 q
    exact ⟨(o0), (A32), (l0), hg, (s.sb q q q)⟩
   replace hg := br_f hg E0
   refine S s<|kw<|pw<|sw<|vw<|aw q<|nw fun a s => ?_
   obtain ⟨R0, hg, C1⟩ := zJ hg
   refine c_post (fun a w => ∃ (r0 : (List (List UInt8))) (A54 : OA) (y0 : Nat), R0 r0 = some r ∧ St (cx f16 M w0) [(0, sl a0 t_ b0), (5, sl A54 r0 y0), (8, sl e0 c0 g0), (9, vI (((d0 : Nat) : Int))), (10, vI h0)] [] [(101, sF RModule a0 b0 t_), (113, sF Rep.str e0 g0 c0), (116, sF Rep.str A54 y0 r0)] a w) ?_ ?_
   ·apply wp_block
    replace s := s.al 117 114 q
    refine c_loop (σ := Nat) (fun m3 a w => ∃ (s0 : (List (List UInt8))) (j0 : Nat) (A57 : OA) (z0 : Nat), r22_Visible_L2 n t_ h0 R0 m3 s0 j0 = some r ∧ St (cx f16 M w0) [(0, sl a0 t_ b0), (5, sl A57 s0 z0), (8, sl e0 c0 g0), (9, vI (((d0 : Nat) : Int))), (10, vI h0), (11, vI (((j0 : Nat) : Int)))] [] [(101, sF RModule a0 b0 t_), (113, sF Rep.str e0 g0 c0), (117, sF Rep.str A57 z0 s0)] a w) (fun m3 => m3) n ⟨(o0), (0), (A32), (l0), hg, (s.sb q q q)⟩ ?_
    clear s a; rintro m3 a w ⟨s0, j0, A57, z0, hg, s⟩
    rcases m3 with _ | m3
    ·rw [r22_Visible_L2] at hg; cases hg
    rw [r22_Visible_L2] at hg
    obtain ⟨j3, m0, hg⟩ := zB hg
    refine S s<|sw<|sw<|lw<|mw q<|mw q<|mw q fun a s => ?_
    obtain ⟨H5, w1, J1, S1, k5, n1, d1⟩ := SlR.elemX (s.ft 101 q) (ix_some m0).1
    refine S s<|yw q (y_elem (sz := 10) (i := ((h0).toNat)) · q q u22 q w1 (ix_some m0).2.1 (lt_of_get (ix_some m0).1))<|yw q (pF 2 · u38 q) fun a s => ?_
    obtain ⟨D3, B4, E3, C4, F3, D4, G3, E4, H3, F4, I3, G4, J3, H4, K3, I4, C3, z4, rfl, y5, p2, q2, r2, s2, t2, u2, v2, w2, o2⟩ := RModule.open n1
    refine S s<|nsw 127 p2<|nsw 128 q2<|nsw 129 r2<|nsw 130 s2<|nsw 131 t2<|nsw 132 u2<|nsw 133 v2<|nsw 134 w2<|nsw 135 o2<|yw q (lP · J1 S1 (d1 2 _ q) u32 q)<|yw q (lS · q u32)<|yw q (y_lssN (i := j0) (j := ((j3.Types).length)) · q q)<|nw fun a s => c_dec s q (fun F0 => ?_) (fun F0 => ?_)
    ·replace hg := br_t hg F0
     have q5 := SlR.mx (s.ft 128 q)
     obtain ⟨S5, O0, hg⟩ := zB hg
     obtain ⟨h3, Y2, hg⟩ := zB hg
     refine S s<|kw<|pw<|sw<|bw<|lw<|mw q<|mw q<|mw q fun a s => ?_
     obtain ⟨I5, x1, K1, T1, l5, o1, e1⟩ := SlR.elemX (s.ft 101 q) (ix_some m0).1
     refine S s<|yw q (y_elem (sz := 10) (i := ((h0).toNat)) · q q u22 q x1 (ix_some m0).2.1 (lt_of_get (ix_some m0).1))<|yw q (pF 2 · u38 q) fun a s => ?_
     obtain ⟨M3, K4, O3, L4, P3, M4, Q3, O4, R3, P4, S3, Q4, T3, R4, U3, S4, L3, J4, rfl, z5, y2, z2, B2, C2, D2, E2, F2, G2, x2⟩ := RModule.open o1
     refine S s<|nsw 148 y2<|nsw 149 z2<|nsw 150 B2<|nsw 151 C2<|nsw 152 D2<|nsw 153 E2<|nsw 154 F2<|nsw 155 G2<|nsw 156 x2<|yw q (lP · K1 T1 (e1 2 _ q) u32 q)<|mw q fun a s => ?_
     obtain ⟨J5, y1, L1, U1, m5, p1, g1⟩ := SlR.elemX (s.ft 149 q) O0
     refine S s<|yw q (eL 3 j0 · u32 y1 (lt_of_get O0) q)<|yw q (pF 0 · u49 q) fun a s => ?_
     obtain ⟨V3, T4, X3, U4, rfl, B5, H2, I2⟩ := RTypeDecl.open p1
     refine S s<|nsw 157 H2<|nsw 158 I2<|yw q (lP · L1 U1 (g1 0 _ q) u9 q) fun a s => ?_
     refine lC s q func35 (c_r19_With n _ _ s.lt _ _ _ (s.ft 117 q) _ (by omega) _ Y2) fun P5 a w hK hp s => ?_
     obtain ⟨U0, Y0, rfl, e3⟩ := hp
     refine S s<|nsw 159 e3<|aw q fun a s => ?_
     apply wO
     refine p_inN ?_
     refine S s<|pw<|lw<|mw q<|yw q (y_addN (i := j0) (j := 1) · q q (in64.2 (by omega)))<|aw q<|nw<|alw 117 159 q fun a s => ?_
     exact ⟨m3, Nat.lt_succ_self _, ⟨(h3), (j0 + 1), (U0), (Y0), hg, (s.sb q q q)⟩⟩
    replace hg := br_f hg F0
    apply wp_exit
    refine p_then ?_
    refine p_then ?_
    refine p_in ?_
    apply pN
    replace s := s.al 116 117 q
    exact ⟨(s0), (A57), (z0), hg, (s.sb q q q)⟩
   clear s a; rintro a w ⟨r0, A54, y0, hg, s⟩
   subst C1
   refine S s<|vw<|aw q<|nw<|bw<|alw 160 116 q fun a s => ?_
   refine c_loop (σ := Nat) (fun m4 a w => ∃ (u0 : (List (List UInt8))) (k0 : Nat) (A82 : OA) (B0 : Nat), r22_Visible_L3 n t_ Q0 h0 m4 u0 k0 = some r ∧ St (cx f16 M w0) [(0, sl a0 t_ b0), (5, sl A82 u0 B0), (8, sl e0 c0 g0), (9, vI (((d0 : Nat) : Int))), (10, vI h0), (12, vI (((k0 : Nat) : Int)))] [] [(101, sF RModule a0 b0 t_), (113, sF Rep.str e0 g0 c0), (160, sF Rep.str A82 B0 u0)] a w) (fun m4 => m4) n ⟨(r0), (0), (A54), (y0), hg, (s.sb q q q)⟩ ?_
   clear s a; rintro m4 a w ⟨u0, k0, A82, B0, hg, s⟩
   rcases m4 with _ | m4
   ·rw [r22_Visible_L3] at hg; cases hg
   rw [r22_Visible_L3] at hg
   obtain ⟨k3, n0, hg⟩ := zB hg
   refine S s<|sw<|sw<|lw<|mw q<|mw q<|mw q fun a s => ?_
   obtain ⟨K5, z1, M1, V1, n5, q1, h1⟩ := SlR.elemX (s.ft 101 q) (ix_some n0).1
   refine S s<|yw q (y_elem (sz := 10) (i := ((h0).toNat)) · q q u22 q z1 (ix_some n0).2.1 (lt_of_get (ix_some n0).1))<|yw q (pF 3 · u38 q) fun a s => ?_
   obtain ⟨Z3, X4, a4, Y4, b4, Z4, c4, a5, d4, b5, e4, c5, g4, d5, h4, e5, Y3, V4, rfl, C5, K2, L2, M2, O2, P2, Q2, R2, S2, J2⟩ := RModule.open q1
   refine S s<|nsw 170 K2<|nsw 171 L2<|nsw 172 M2<|nsw 173 O2<|nsw 174 P2<|nsw 175 Q2<|nsw 176 R2<|nsw 177 S2<|nsw 178 J2<|yw q (lP · M1 V1 (h1 3 _ q) u33 q)<|yw q (lS · q u33)<|yw q (y_lssN (i := k0) (j := ((k3.Templates).length)) · q q)<|nw fun a s => c_dec s q (fun G0 => ?_) (fun G0 => ?_)
   ·replace hg := br_t hg G0
    have r5 := SlR.mx (s.ft 172 q)
    obtain ⟨T5, P0, hg⟩ := zB hg
    obtain ⟨E1, hg⟩ := zC hg
    obtain ⟨i3, Z2, hg⟩ := zB hg
    refine S s<|kw<|pw<|sw<|bw<|lw<|mw q<|mw q<|mw q fun a s => ?_
    obtain ⟨D5, s1, F1, O1, g5, i1, Z0⟩ := SlR.elemX (s.ft 101 q) (ix_some n0).1
    refine S s<|yw q (y_elem (sz := 10) (i := ((h0).toNat)) · q q u22 q s1 (ix_some n0).2.1 (lt_of_get (ix_some n0).1))<|yw q (pF 3 · u38 q) fun a s => ?_
    obtain ⟨n3, j4, o3, k4, p3, l4, q3, n4, r3, o4, s3, p4, t3, q4, v3, r4, l3, i4, rfl, t5, Z1, a2, b2, c2, d2, e2, g2, h2, Y1⟩ := RModule.open i1
    refine S s<|nsw 192 Z1<|nsw 193 a2<|nsw 194 b2<|nsw 195 c2<|nsw 196 d2<|nsw 197 e2<|nsw 198 g2<|nsw 199 h2<|nsw 200 Y1<|yw q (lP · F1 O1 (Z0 3 _ q) u33 q)<|mw q fun a s => ?_
    obtain ⟨E5, t1, G1, P1, h5, j1, a1⟩ := SlR.elemX (s.ft 194 q) P0
    refine S s<|yw q (eL 6 k0 · u33 t1 (lt_of_get P0) q)<|yw q (pF 0 · u62 q) fun a s => ?_
    obtain ⟨w3, s4, x3, t4, y3, w4, rfl, u5, v5, i2, j2, k2⟩ := RDef.open j1
    refine S s<|nsw 201 i2<|nsw 202 j2<|nsw 203 k2<|yw q (lP · G1 P1 (a1 0 _ q) u9 q)<|yw q (y_concat · q q E1) fun a s => ?_
    refine lC s q func35 (c_r19_With n _ _ s.lt _ _ _ (s.ft 160 q) _ (by rw [List.length_append]; omega) _ Z2) fun L5 a w hK hp s => ?_
    obtain ⟨S0, V0, rfl, a3⟩ := hp
    refine S s<|nsw 204 a3<|aw q fun a s => ?_
    apply wO
    refine p_inN ?_
    refine S s<|pw<|lw<|mw q<|yw q (y_addN (i := k0) (j := 1) · q q (in64.2 (by omega)))<|aw q<|nw<|alw 160 204 q fun a s => ?_
    exact ⟨m4, Nat.lt_succ_self _, ⟨(i3), (k0 + 1), (S0), (V0), hg, (s.sb q q q)⟩⟩
   replace hg := br_f hg G0
   apply wp_exit
   refine p_then ?_
   refine p_then ?_
   refine p_in ?_
   refine p_inN ?_
   apply pN
   replace s := s.al 115 160 q
   exact ⟨(u0), (A82), (B0), hg, (s.sb q q q)⟩
  clear s a; rintro a w ⟨q0, A39, x0, hg, s⟩
  subst B1
  refine S s<|lw<|mw q<|yw q (y_addN (i := d0) (j := 1) · q q (in64.2 (by omega)))<|aw q<|nw<|alw 114 115 q fun a s => ?_
  exact ⟨m2, Nat.lt_succ_self _, ⟨(q0), (d0 + 1), (A39), (x0), hg, (s.sb q q q)⟩⟩
 replace hg := br_f hg D0
 apply wp_exit
 refine p_then ?_
 refine p_then ?_
 refine p_in ?_
 refine S s<|pw<|vw<|mw q<|aw q<|nw fun a s => ?_
 apply wp_ret
 obtain rfl := si hg
 refine fin1 (fn := Tryz.f16) s q (r_tmp s q) ?_
 exact ⟨(A32), (l0), q, (s.out (k := 114) q)⟩
theorem c_r22_twice (n : Nat) (M : Bs) (w0 : World) (hM : bM M w0) (l_ : (List (List UInt8))) (b0 : OA) (c0 : Nat) (o0 : sR Rep.str M w0 b0 c0 l_) (r : Bool) (hg : r22_twice n l_ = some r) :
    CA Tryz.prog 42 [sl b0 l_ c0] w0 (fun v w => v = .bool (r)) := by
 unfold r22_twice at hg
 refine enter M noB func42 q q hM ?_
 intro a s
 refine S s<|esw 101 o0<|vw<|aw q<|nw<|sw<|vw<|aw q<|nw<|bw fun a s => ?_
 refine c_loop (σ := Nat) (fun m1 a w => ∃ (a0 : Nat), r22_twice_L0 n l_ m1 a0 = some r ∧ St (cx f42 M w0) [(0, sl b0 l_ c0), (3, vI (((a0 : Nat) : Int)))] [] [(101, sF Rep.str b0 c0 l_)] a w) (fun m1 => m1) n ⟨(0), hg, (s.sb q q q)⟩ ?_
 clear s a; rintro m1 a w ⟨a0, hg, s⟩
 rcases m1 with _ | m1
 ·rw [r22_twice_L0] at hg; cases hg
 rw [r22_twice_L0] at hg
 refine S s<|sw<|vw<|mw q<|mw q<|yw q (lS · q u25)<|yw q (y_lssN (i := a0) (j := ((l_).length)) · q q)<|nw fun a s => c_dec s q (fun e0 => ?_) (fun e0 => ?_)
 ·replace hg := br_t hg e0
  have r0 := SlR.mx (s.ft 101 q)
  obtain ⟨g0, hg⟩ := zC hg
  obtain ⟨x6, h0, hg⟩ := zB hg
  obtain ⟨r8, p0, hg⟩ := zB hg
  refine S s<|kw<|pw<|sw<|bw<|sw fun a s => ?_
  refine d_plan s [] [(0, some 0), (1, some 0), (2, some 0), (3, some 0), (4, some 0), (5, some 0), (6, some 0), (7, none)] q (by kernel_rfl) (by kernel_rfl) q ?_; clear s; intro wr hZ s; have hR := s.wd
  refine S s<|qw hR q (mo · q)<|qw hR q (mo · q) fun a s => ?_
  have i0 := (s.ft 101 q).cap
  refine qt s hR q (y_cutH (xs := l_) (sz := 1) (i := a0) s q q u25 q q g0 i0) fun a s => ?_
  replace s := s.add 103 (sF Rep.str b0 c0 ((l_).take a0)) (SlR.cutH (s.ft 101 q) a0 g0)
  refine S s<|qw hR q (mo · q)<|qw hR q (mo · q) fun a s => ?_
  obtain ⟨t0, l0, m0, n0, q0, k0, j0⟩ := SlR.elemX (s.ft 101 q) h0
  refine qt s hR q (eL 1 a0 s u25 l0 (lt_of_get h0) q) fun a s => ?_
  obtain ⟨rfl, s0⟩ := k0
  refine qt s hR q (lP s m0 n0 (j0 0 _ q) u9 q) fun a s => ?_
  refine l_take s q q (l_call (cap := []) s q func47 q (by kernel_rfl) q q (c_r22_has n _ _ s.lt _ _ _ (s.ft 103 q) _ (by omega) _ p0) fun u0 a w hK hp s => ?_)
  refine gz hZ hK fun hZ => ?_; clear hK
  obtain rfl := hp
  clear hR hZ
  apply pN
  refine c_cond s q (fun d0 => ?_) (fun d0 => ?_)
  ·replace hg := br_t hg d0
   refine S s<|vw<|aw q<|nw fun a s => ?_
   apply wp_ret
   refine p_inR ?_
   refine p_thenR ?_
   refine p_thenR ?_
   refine p_inR ?_
   refine p_thenR ?_
   obtain rfl := si hg
   exact fT f42 s q q q
  replace hg := br_n hg d0
  apply wp_skip
  refine p_inN ?_
  refine S s<|pw<|lw<|mw q<|yw q (y_addN (i := a0) (j := 1) · q q (in64.2 (by omega)))<|aw q<|nw fun a s => ?_
  exact ⟨m1, Nat.lt_succ_self _, ⟨(a0 + 1), hg, (s.sb q q q)⟩⟩
 replace hg := br_f hg e0
 apply wp_exit
 refine p_then ?_
 refine p_then ?_
 refine p_in ?_
 refine S s<|pw<|vw<|aw q<|nw fun a s => ?_
 apply wp_ret
 obtain rfl := si hg
 exact fT f42 s q q q
theorem c_r22_typeNames (n : Nat) (M : Bs) (w0 : World) (hM : bM M w0) (l_ : (List TypeDecl)) (c0 : OA) (d0 : Nat) (q0 : sR RTypeDecl M w0 c0 d0 l_) (r : (List (List UInt8))) (hg : r22_typeNames n l_ = some r) :
    CA Tryz.prog 43 [sl c0 l_ d0] w0 (fun v w => ∃ (Ao : OA), ∃ (co : Nat), ∃ (cso : List Value), v = sl Ao r co ∧ ((Ob.row Ao (r).length co 9 1 cso).holds w) ∧ (∀ b, (Ob.row Ao (r).length co 9 1 cso).ids b → w0.heap.size ≤ b) ∧ (RdAll Rep.str (fun b => M b ∨ (Ob.row Ao (r).length co 9 1 cso).ids b) w cso (r))) := by
 unfold r22_typeNames at hg
 refine enter M noB func43 q q hM ?_
 intro a s
 refine S s<|esw 101 q0<|vw<|aw q<|nw<|vw<|aw q<|nw<|sw<|vw<|aw q<|nw<|bw fun a s => ?_
 replace s := s.nilRow 700102 9 1 q
 replace s := s.add 103 (rdF Rep.str [] []) (rN)
 refine c_loop (σ := Nat) (fun m1 a w => ∃ (out_1 : (List (List UInt8))) (a0 : Nat) (A2 : OA) (c3 : Nat) (b0 : List Value), r22_typeNames_L0 n l_ m1 out_1 a0 = some r ∧ St (cx f43 M w0) [(0, sl c0 l_ d0), (3, sl A2 out_1 c3), (4, vI (((a0 : Nat) : Int)))] [(700102, Ob.row (A2) ((out_1).length) (c3) 9 1 (b0))] [(101, sF RTypeDecl c0 d0 l_), (103, rdF Rep.str (b0) (out_1))] a w) (fun m1 => m1) n ⟨([]), (0), (none), (0), ([]), hg, (s.sb q q q)⟩ ?_
 clear s a; rintro m1 a w ⟨out_1, a0, A2, c3, b0, hg, s⟩
 rcases m1 with _ | m1
 ·rw [r22_typeNames_L0] at hg; cases hg
 rw [r22_typeNames_L0] at hg
 refine S s<|sw<|vw<|mw q<|mw q<|yw q (lS · q u32)<|yw q (y_lssN (i := a0) (j := ((l_).length)) · q q)<|nw fun a s => c_dec s q (fun e0 => ?_) (fun e0 => ?_)
 ·replace hg := br_t hg e0
  have C0 := SlR.mx (s.ft 101 q)
  obtain ⟨x9, h0, hg⟩ := zB hg
  obtain ⟨g0, hg⟩ := zC hg
  refine S s<|kw<|pw<|sw<|bw<|lw<|mw q<|mw q<|mw q fun a s => ?_
  obtain ⟨E0, n0, o0, p0, B0, m0, l0⟩ := SlR.elemX (s.ft 101 q) h0
  refine S s<|yw q (eL 3 a0 · u32 n0 (lt_of_get h0) q)<|yw q (pF 0 · u49 q) fun a s => ?_
  obtain ⟨u0, y0, v0, z0, rfl, D0, r0, s0⟩ := RTypeDecl.open m0
  refine S s<|nsw 108 r0<|nsw 109 s0<|yw q (lP · o0 p0 (l0 0 _ q) u9 q) fun a s => ?_
  refine l_seq q (l_buildDense (sz := 1) s 1506 q q q u25 q q q q q q q fun x0 a w k0 hK s => ?_)
  clear k0
  replace s := s.add 110 (rdF Rep.str (cellsOfL [vT x9.Name]) ([x9.Name])) (RdAll.cons (by exact ⟨q, (by omega)⟩) (rN))
  have t0 := row_src (s.wd.holds 1506 _ q) (RdAll.one (s.ft 110 q))
  refine l_seq q (l_append (sz := 1) (by_ := 16) (N := (out_1 ++ [x9.Name]).length) s 700102 q q q u25 q q q q q t0 (by rw [List.length_append]; try rfl) q (rmA g0 q) (rmB g0) q fun i0 j0 a w hA hK s => ?_)
  replace s := s.add 111 (rdF Rep.str (b0 ++ (cellsOfL [vT x9.Name])) (out_1 ++ [x9.Name])) (RdAll.append (s.ft 103 q) (s.ft 110 q))
  refine asg s q q fun a s => ?_
  apply wO
  refine p_inN ?_
  refine S s<|pw<|lw<|mw q<|yw q (y_addN (i := a0) (j := 1) · q q (in64.2 (by omega)))<|aw q<|nw<|alw 103 111 q fun a s => ?_
  exact ⟨m1, Nat.lt_succ_self _, ⟨(out_1 ++ [x9.Name]), (a0 + 1), (i0), (j0), (b0 ++ (cellsOfL [vT x9.Name])), hg, (s.sb q q q)⟩⟩
 replace hg := br_f hg e0
 apply wp_exit
 refine p_then ?_
 refine p_then ?_
 refine p_in ?_
 refine S s<|pw<|vw<|mw q<|aw q<|nw fun a s => ?_
 apply wp_ret
 obtain rfl := si hg
 refine fin1 (fn := Tryz.f43) s q (r_tmp s q) ?_
 exact ⟨(A2), (c3), (b0), q, (s.wd.holds 700102 _ q), (row_new s (kk := 700102) q q), (RdAll.own s (kk := 700102) q (s.ft 103 q))⟩
theorem c_r22_defNames (n : Nat) (M : Bs) (w0 : World) (hM : bM M w0) (l_ : (List Def)) (c0 : OA) (d0 : Nat) (s0 : sR RDef M w0 c0 d0 l_) (r : (List (List UInt8))) (hg : r22_defNames n l_ = some r) :
    CA Tryz.prog 44 [sl c0 l_ d0] w0 (fun v w => ∃ (g0 : OA), ∃ (h0 : Nat), v = sl g0 r h0 ∧ (SlR Rep.str M w g0 (r).length h0 (r))) := by
 unfold r22_defNames at hg
 refine enter M noB func44 q q hM ?_
 intro a s
 refine S s<|esw 101 s0<|vw<|aw q<|nw<|vw<|aw q<|nw<|sw<|vw<|aw q<|nw<|bw fun a s => ?_
 replace s := s.nilRow 700102 9 1 q
 replace s := s.add 103 (rdF Rep.str [] []) (rN)
 refine c_loop (σ := Nat) (fun m1 a w => ∃ (out_1 : (List (List UInt8))) (a0 : Nat) (A2 : OA) (c3 : Nat) (b0 : List Value), r22_defNames_L0 n l_ m1 out_1 a0 = some r ∧ St (cx f44 M w0) [(0, sl c0 l_ d0), (3, sl A2 out_1 c3), (4, vI (((a0 : Nat) : Int)))] [(700102, Ob.row (A2) ((out_1).length) (c3) 9 1 (b0))] [(101, sF RDef c0 d0 l_), (103, rdF Rep.str (b0) (out_1))] a w) (fun m1 => m1) n ⟨([]), (0), (none), (0), ([]), hg, (s.sb q q q)⟩ ?_
 clear s a; rintro m1 a w ⟨out_1, a0, A2, c3, b0, hg, s⟩
 rcases m1 with _ | m1
 ·rw [r22_defNames_L0] at hg; cases hg
 rw [r22_defNames_L0] at hg
 refine S s<|sw<|vw<|mw q<|mw q<|yw q (lS · q u33)<|yw q (y_lssN (i := a0) (j := ((l_).length)) · q q)<|nw fun a s => c_dec s q (fun e0 => ?_) (fun e0 => ?_)
 ·replace hg := br_t hg e0
  have H0 := SlR.mx (s.ft 101 q)
  obtain ⟨x9, j0, hg⟩ := zB hg
  obtain ⟨i0, hg⟩ := zC hg
  refine S s<|kw<|pw<|sw<|bw<|lw<|mw q<|mw q<|mw q fun a s => ?_
  obtain ⟨K0, p0, q0, r0, G0, o0, n0⟩ := SlR.elemX (s.ft 101 q) j0
  refine S s<|yw q (eL 6 a0 · u33 p0 (lt_of_get j0) q)<|yw q (pF 0 · u62 q) fun a s => ?_
  obtain ⟨y0, D0, z0, E0, B0, F0, rfl, I0, J0, t0, u0, v0⟩ := RDef.open o0
  refine S s<|nsw 109 t0<|nsw 110 u0<|nsw 111 v0<|yw q (lP · q0 r0 (n0 0 _ q) u9 q) fun a s => ?_
  refine l_seq q (l_buildDense (sz := 1) s 1506 q q q u25 q q q q q q q fun C0 a w m0 hK s => ?_)
  clear m0
  replace s := s.add 112 (rdF Rep.str (cellsOfL [vT x9.Name]) ([x9.Name])) (RdAll.cons (by exact ⟨q, (by omega)⟩) (rN))
  have x0 := row_src (s.wd.holds 1506 _ q) (RdAll.one (s.ft 112 q))
  refine l_seq q (l_append (sz := 1) (by_ := 16) (N := (out_1 ++ [x9.Name]).length) s 700102 q q q u25 q q q q q x0 (by rw [List.length_append]; try rfl) q (rmA i0 q) (rmB i0) q fun k0 l0 a w hA hK s => ?_)
  replace s := s.add 113 (rdF Rep.str (b0 ++ (cellsOfL [vT x9.Name])) (out_1 ++ [x9.Name])) (RdAll.append (s.ft 103 q) (s.ft 112 q))
  refine asg s q q fun a s => ?_
  apply wO
  refine p_inN ?_
  refine S s<|pw<|lw<|mw q<|yw q (y_addN (i := a0) (j := 1) · q q (in64.2 (by omega)))<|aw q<|nw<|alw 103 113 q fun a s => ?_
  exact ⟨m1, Nat.lt_succ_self _, ⟨(out_1 ++ [x9.Name]), (a0 + 1), (k0), (l0), (b0 ++ (cellsOfL [vT x9.Name])), hg, (s.sb q q q)⟩⟩
 replace hg := br_f hg e0
 apply wp_exit
 refine p_then ?_
 refine p_then ?_
 refine p_in ?_
 refine S s<|pw<|vw<|mw q<|aw q<|nw fun a s => ?_
 apply wp_ret
 obtain rfl := si hg
 refine fin1 (fn := Tryz.f44) s q (r_tmp s q) ?_
 exact ⟨(A2), (c3), q, (s.rowOut (R := Rep.str) (kk := 700102) q q (s.ft 103 q))⟩
theorem c_r22_ruleNames (n : Nat) (M : Bs) (w0 : World) (hM : bM M w0) (m_ : Module) (i0 : OA) (t0 : Nat) (j0 : OA) (u0 : Nat) (k0 : OA) (v0 : Nat) (l0 : OA) (x0 : Nat) (m0 : OA) (y0 : Nat) (n0 : OA) (z0 : Nat) (o0 : OA) (B0 : Nat) (p0 : OA) (C0 : Nat) (h0 : OA) (s0 : Nat) (r2 : (m_.Name).length ≤ 9223372036854775807) (s1 : sR Rep.str M w0 i0 t0 m_.Imports) (t1 : sR RTypeDecl M w0 j0 u0 m_.Types) (u1 : sR RDef M w0 k0 v0 m_.Templates) (v1 : sR REntryDecl M w0 l0 x0 m_.Entries) (w1 : sR RLexDecl M w0 m0 y0 m_.LexRules) (x1 : sR RDef M w0 n0 z0 m_.Rules) (y1 : sR RDef M w0 o0 B0 m_.Roots) (z1 : sR (Rep.list Rep.str) M w0 p0 C0 m_.Checks) (r1 : sR Rep.str M w0 h0 s0 m_.Drops) (r : (List (List UInt8))) (hg : r22_ruleNames n m_ = some r) :
    CA Tryz.prog 45 [.agg #[vT m_.Name, sl i0 m_.Imports t0, sl j0 m_.Types u0, sl k0 m_.Templates v0, sl l0 m_.Entries x0, sl m0 m_.LexRules y0, sl n0 m_.Rules z0, sl o0 m_.Roots B0, sl p0 m_.Checks C0, sl h0 m_.Drops s0]] w0 (fun v w => ∃ (J0 : OA), ∃ (K0 : Nat), v = sl J0 r K0 ∧ (SlR Rep.str M w J0 (r).length K0 (r))) := by
 unfold r22_ruleNames at hg
 refine enter M noB func45 q q hM ?_
 intro a s
 let F : Al Fact := [(101, sF Rep.str i0 t0 m_.Imports), (102, sF RTypeDecl j0 u0 m_.Types), (103, sF RDef k0 v0 m_.Templates), (104, sF REntryDecl l0 x0 m_.Entries), (105, sF RLexDecl m0 y0 m_.LexRules), (106, sF RDef n0 z0 m_.Rules), (107, sF RDef o0 B0 m_.Roots), (108, sF (Rep.list Rep.str) p0 C0 m_.Checks), (109, sF Rep.str h0 s0 m_.Drops)]
 let B : List Value := [vT m_.Name, sl i0 m_.Imports t0, sl j0 m_.Types u0, sl k0 m_.Templates v0, sl l0 m_.Entries x0, sl m0 m_.LexRules y0, sl n0 m_.Rules z0, sl o0 m_.Roots B0, sl p0 m_.Checks C0, sl h0 m_.Drops s0]
 refine S s<|esw 101 s1<|esw 102 t1<|esw 103 u1<|esw 104 v1<|esw 105 w1<|esw 106 x1<|esw 107 y1<|esw 108 z1<|esw 109 r1<|vw fun a s => ?_
 refine l_seq q (l_box (zs := B) s 1000 q q q q fun b2 a w hb hK s => ?_)
 refine S s<|aw q<|nw<|vw<|aw q<|nw<|sw<|vw<|aw q<|nw fun a s => ?_
 obtain ⟨k3, hg, k1⟩ := zJ hg
 refine c_post (fun a w => ∃ (out_4 : (List (List UInt8))) (A5 : OA) (c6 : Nat) (E0 : List Value), k3 out_4 = some r ∧ St (cx f45 M w0) [(1, vP b2 0), (3, sl A5 out_4 c6)] [(1000, Ob.box b2 B 38), (700110, Ob.row (A5) ((out_4).length) (c6) 9 1 (E0))] (F ++ [(111, rdF Rep.str (E0) (out_4))]) a w) ?_ ?_
 ·apply wp_block
  replace s := s.nilRow 700112 9 1 q
  replace s := s.add 113 (rdF Rep.str [] []) (rN)
  refine c_loop (σ := Nat) (fun m1 a w => ∃ (out_8 : (List (List UInt8))) (a0 : Nat) (A9 : OA) (q0 : Nat) (e0 : List Value), r22_ruleNames_L0 n m_ k3 m1 out_8 a0 = some r ∧ St (cx f45 M w0) [(1, vP b2 0), (3, sl A9 out_8 q0), (4, vI (((a0 : Nat) : Int)))] [(1000, Ob.box b2 B 38), (700112, Ob.row (A9) ((out_8).length) (q0) 9 1 (e0))] (F ++ [(113, rdF Rep.str (e0) (out_8))]) a w) (fun m1 => m1) n ⟨([]), (0), (none), (0), ([]), hg, (s.sb q q q)⟩ ?_
  clear s a; rintro m1 a w ⟨out_8, a0, A9, q0, e0, hg, s⟩
  rcases m1 with _ | m1
  ·rw [r22_ruleNames_L0] at hg; cases hg
  rw [r22_ruleNames_L0] at hg
  refine S s<|sw<|vw<|mw q<|yw q (bF 4 · u38 q)<|yw q (lB 1000 · u34 q)<|yw q (lS · q u34)<|yw q (y_lssN (i := a0) (j := ((m_.Entries).length)) · q q)<|nw fun a s => c_dec s q (fun G0 => ?_) (fun G0 => ?_)
  ·replace hg := br_t hg G0
   have p2 := SlR.mx (s.ft 104 q)
   obtain ⟨c0, P0, hg⟩ := zB hg
   obtain ⟨L0, hg⟩ := zC hg
   refine S s<|kw<|pw<|sw<|bw<|lw<|mw q<|yw q (bF 4 · u38 q)<|yw q (lB 1000 · u34 q)<|mw q fun a s => ?_
   obtain ⟨w2, h1, l1, o1, l2, e1, c1⟩ := SlR.elemX (s.ft 104 q) P0
   refine S s<|yw q (eL 7 a0 · u34 h1 (lt_of_get P0) q)<|yw q (pF 1 · u89 q)<|yw q (pF 1 · u62 q) fun a s => ?_
   obtain ⟨P1, c2, Q1, d2, R1, e2, S1, g2, rfl, B1, s2, t2, C1, D1, E1⟩ := REntryDecl.open e1
   refine S s<|nsw 120 B1<|nsw 121 C1<|nsw 122 D1<|nsw 123 E1<|yw q (lP · l1 o1 (c1 1 _ q) u9 q) fun a s => ?_
   refine l_seq q (l_buildDense (sz := 1) s 1508 q q q u25 q q q q q q q fun Z1 a w a1 hK s => ?_)
   clear a1
   replace s := s.add 124 (rdF Rep.str (cellsOfL [vT c0.Def.Name]) ([c0.Def.Name])) (RdAll.cons (by exact ⟨q, (by omega)⟩) (rN))
   have K1 := row_src (s.wd.holds 1508 _ q) (RdAll.one (s.ft 124 q))
   refine l_seq q (l_append (sz := 1) (by_ := 16) (N := (out_8 ++ [c0.Def.Name]).length) s 700112 q q q u25 q q q q q K1 (by rw [List.length_append]; try rfl) q (rmA L0 q) (rmB L0) q fun T0 X0 a w hA hK s => ?_)
   replace s := s.add 125 (rdF Rep.str (e0 ++ (cellsOfL [vT c0.Def.Name])) (out_8 ++ [c0.Def.Name])) (RdAll.append (s.ft 113 q) (s.ft 124 q))
   refine asg s q q fun a s => ?_
   apply wO
   refine p_inN ?_
   refine S s<|pw<|lw<|mw q<|yw q (y_addN (i := a0) (j := 1) · q q (in64.2 (by omega)))<|aw q<|nw<|alw 113 125 q fun a s => ?_
   exact ⟨m1, Nat.lt_succ_self _, ⟨(out_8 ++ [c0.Def.Name]), (a0 + 1), (T0), (X0), (e0 ++ (cellsOfL [vT c0.Def.Name])), hg, (s.sb q q q)⟩⟩
  replace hg := br_f hg G0
  apply wp_exit
  refine p_then ?_
  refine p_then ?_
  refine p_in ?_
  apply pN
  replace s := s.al 111 113 q
  replace s := s.pk [(1000, 1000), (700110, 700112)] (by decide)
  exact ⟨(out_8), (A9), (q0), (e0), hg, (s.sb q q q)⟩
 clear s a; rintro a w ⟨out_4, A5, c6, E0, hg, s⟩
 subst k1
 refine S s<|sw<|vw<|aw q<|nw fun a s => ?_
 obtain ⟨R0, hg, j1⟩ := zJ hg
 refine c_post (fun a w => ∃ (out_28 : (List (List UInt8))) (A29 : OA) (F0 : Nat) (D0 : List Value), R0 out_28 = some r ∧ St (cx f45 M w0) [(1, vP b2 0), (3, sl A29 out_28 F0)] [(1000, Ob.box b2 B 38), (700126, Ob.row (A29) ((out_28).length) (F0) 9 1 (D0))] (F ++ [(127, rdF Rep.str (D0) (out_28))]) a w) ?_ ?_
 ·apply wp_block
  replace s := s.al 129 111 q
  replace s := s.pk [(1000, 1000), (700128, 700110)] (by decide)
  refine c_loop (σ := Nat) (fun m2 a w => ∃ (out_32 : (List (List UInt8))) (b0 : Nat) (A33 : OA) (r0 : Nat) (g0 : List Value), r22_ruleNames_L1 n m_ R0 m2 out_32 b0 = some r ∧ St (cx f45 M w0) [(1, vP b2 0), (3, sl A33 out_32 r0), (5, vI (((b0 : Nat) : Int)))] [(1000, Ob.box b2 B 38), (700128, Ob.row (A33) ((out_32).length) (r0) 9 1 (g0))] (F ++ [(129, rdF Rep.str (g0) (out_32))]) a w) (fun m2 => m2) n ⟨(out_4), (0), (A5), (c6), (E0), hg, (s.sb q q q)⟩ ?_
  clear s a; rintro m2 a w ⟨out_32, b0, A33, r0, g0, hg, s⟩
  rcases m2 with _ | m2
  ·rw [r22_ruleNames_L1] at hg; cases hg
  rw [r22_ruleNames_L1] at hg
  refine S s<|sw<|vw<|mw q<|yw q (bF 5 · u38 q)<|yw q (lB 1000 · u35 q)<|yw q (lS · q u35)<|yw q (y_lssN (i := b0) (j := ((m_.LexRules).length)) · q q)<|nw fun a s => c_dec s q (fun H0 => ?_) (fun H0 => ?_)
  ·replace hg := br_t hg H0
   have q2 := SlR.mx (s.ft 105 q)
   obtain ⟨d0, Q0, hg⟩ := zB hg
   obtain ⟨M0, hg⟩ := zC hg
   refine S s<|kw<|pw<|sw<|bw<|lw<|mw q<|yw q (bF 5 · u38 q)<|yw q (lB 1000 · u35 q)<|mw q fun a s => ?_
   obtain ⟨x2, i1, n1, p1, n2, g1, d1⟩ := SlR.elemX (s.ft 105 q) Q0
   refine S s<|yw q (eL 8 b0 · u35 i1 (lt_of_get Q0) q)<|yw q (pF 2 · u94 q)<|yw q (pF 2 · u62 q) fun a s => ?_
   obtain ⟨T1, h2, U1, i2, V1, j2, X1, k2, rfl, F1, u2, v2, G1, H1, I1⟩ := RLexDecl.open g1
   refine S s<|nsw 136 F1<|nsw 137 G1<|nsw 138 H1<|nsw 139 I1<|yw q (lP · n1 p1 (d1 2 _ q) u9 q) fun a s => ?_
   refine l_seq q (l_buildDense (sz := 1) s 1908 q q q u25 q q q q q q q fun a2 a w b1 hK s => ?_)
   clear b1
   replace s := s.add 140 (rdF Rep.str (cellsOfL [vT d0.Def.Name]) ([d0.Def.Name])) (RdAll.cons (by exact ⟨q, (by omega)⟩) (rN))
   have L1 := row_src (s.wd.holds 1908 _ q) (RdAll.one (s.ft 140 q))
   refine l_seq q (l_append (sz := 1) (by_ := 16) (N := (out_32 ++ [d0.Def.Name]).length) s 700128 q q q u25 q q q q q L1 (by rw [List.length_append]; try rfl) q (rmA M0 q) (rmB M0) q fun U0 Y0 a w hA hK s => ?_)
   replace s := s.add 141 (rdF Rep.str (g0 ++ (cellsOfL [vT d0.Def.Name])) (out_32 ++ [d0.Def.Name])) (RdAll.append (s.ft 129 q) (s.ft 140 q))
   refine asg s q q fun a s => ?_
   apply wO
   refine p_inN ?_
   refine S s<|pw<|lw<|mw q<|yw q (y_addN (i := b0) (j := 1) · q q (in64.2 (by omega)))<|aw q<|nw<|alw 129 141 q fun a s => ?_
   exact ⟨m2, Nat.lt_succ_self _, ⟨(out_32 ++ [d0.Def.Name]), (b0 + 1), (U0), (Y0), (g0 ++ (cellsOfL [vT d0.Def.Name])), hg, (s.sb q q q)⟩⟩
  replace hg := br_f hg H0
  apply wp_exit
  refine p_then ?_
  refine p_then ?_
  refine p_in ?_
  apply pN
  replace s := s.al 127 129 q
  replace s := s.pk [(1000, 1000), (700126, 700128)] (by decide)
  exact ⟨(out_32), (A33), (r0), (g0), hg, (s.sb q q q)⟩
 clear s a; rintro a w ⟨out_28, A29, F0, D0, hg, s⟩
 subst j1
 obtain ⟨I0, J1, hg⟩ := zB hg
 obtain ⟨O0, hg⟩ := zC hg
 refine S s<|sw<|lw<|mw q<|yw q (bF 6 · u38 q)<|yw q (lB 1000 · u33 q) fun a s => ?_
 refine lC s q func44 (c_r22_defNames n _ _ s.lt _ _ _ (s.ft 106 q) _ J1) fun y2 a w hK hp s => ?_
 obtain ⟨Y1, o2, rfl, O1⟩ := hp
 replace s := s.ns 145 O1
 obtain ⟨S0, M1, q1⟩ := SlR.src (s.ft 145 q)
 replace s := s.add 146 (rdF Rep.str S0 (I0)) q1
 refine l_seq q (l_append (sz := 1) (by_ := 16) (N := (out_28 ++ I0).length) s 700126 q q q u25 q q q q q M1 (by rw [List.length_append]; try rfl) q (rmA O0 q) (rmB O0) q fun V0 Z0 a w hA hK s => ?_)
 replace s := s.add 147 (rdF Rep.str (D0 ++ S0) (out_28 ++ I0)) (RdAll.append (s.ft 127 q) (s.ft 146 q))
 refine S s<|aw q<|nw fun a s => ?_
 apply wp_ret
 obtain rfl := si hg
 refine fin1 (fn := Tryz.f45) s q (r_tmp s q) ?_
 exact ⟨(V0), (Z0), q, (s.rowOut (R := Rep.str) (kk := 700126) q q (s.ft 147 q))⟩
theorem c_r22_definitions (n : Nat) (M : Bs) (w0 : World) (hM : bM M w0) (m_ : Module) (j0 : OA) (v0 : Nat) (k0 : OA) (x0 : Nat) (l0 : OA) (y0 : Nat) (m0 : OA) (z0 : Nat) (n0 : OA) (B0 : Nat) (o0 : OA) (C0 : Nat) (p0 : OA) (D0 : Nat) (q0 : OA) (E0 : Nat) (i0 : OA) (u0 : Nat) (C2 : (m_.Name).length ≤ 9223372036854775807) (Q1 : sR Rep.str M w0 j0 v0 m_.Imports) (R1 : sR RTypeDecl M w0 k0 x0 m_.Types) (S1 : sR RDef M w0 l0 y0 m_.Templates) (T1 : sR REntryDecl M w0 m0 z0 m_.Entries) (U1 : sR RLexDecl M w0 n0 B0 m_.LexRules) (V1 : sR RDef M w0 o0 C0 m_.Rules) (X1 : sR RDef M w0 p0 D0 m_.Roots) (Y1 : sR (Rep.list Rep.str) M w0 q0 E0 m_.Checks) (P1 : sR Rep.str M w0 i0 u0 m_.Drops) (r : (List Def)) (hg : r22_definitions n m_ = some r) :
    CA Tryz.prog 68 [.agg #[vT m_.Name, sl j0 m_.Imports v0, sl k0 m_.Types x0, sl l0 m_.Templates y0, sl m0 m_.Entries z0, sl n0 m_.LexRules B0, sl o0 m_.Rules C0, sl p0 m_.Roots D0, sl q0 m_.Checks E0, sl i0 m_.Drops u0]] w0 (fun v w => ∃ (L0 : OA), ∃ (T0 : Nat), v = sl L0 r T0 ∧ (SlR RDef M w L0 (r).length T0 (r))) := by
 unfold r22_definitions at hg
 refine enter M noB func68 q q hM ?_
 intro a s
 let F : Al Fact := [(101, sF Rep.str j0 v0 m_.Imports), (102, sF RTypeDecl k0 x0 m_.Types), (103, sF RDef l0 y0 m_.Templates), (104, sF REntryDecl m0 z0 m_.Entries), (105, sF RLexDecl n0 B0 m_.LexRules), (106, sF RDef o0 C0 m_.Rules), (107, sF RDef p0 D0 m_.Roots), (108, sF (Rep.list Rep.str) q0 E0 m_.Checks), (109, sF Rep.str i0 u0 m_.Drops)]
 let B : List Value := [vT m_.Name, sl j0 m_.Imports v0, sl k0 m_.Types x0, sl l0 m_.Templates y0, sl m0 m_.Entries z0, sl n0 m_.LexRules B0, sl o0 m_.Rules C0, sl p0 m_.Roots D0, sl q0 m_.Checks E0, sl i0 m_.Drops u0]
 refine S s<|esw 101 Q1<|esw 102 R1<|esw 103 S1<|esw 104 T1<|esw 105 U1<|esw 106 V1<|esw 107 X1<|esw 108 Y1<|esw 109 P1<|vw fun a s => ?_
 refine l_seq q (l_box (zs := B) s 1000 q q q q fun b2 a w hb hK s => ?_)
 obtain ⟨c1, hg⟩ := zC hg
 refine S s<|aw q<|nw<|sw<|lw fun a s => ?_
 refine l_seq q (l_buildEmpty (sz := 6) s 1100 u33 q q q fun b7 a w x1 hK s => ?_)
 clear x1
 refine S s<|yw q (bF 3 · u38 q)<|yw q (lB 1000 · u33 q) fun a s => ?_
 replace s := s.add 113 (rdF RDef ([]) ([])) (rN)
 obtain ⟨K0, o2, O1⟩ := SlR.src (s.ft 103 q)
 replace s := s.add 114 (rdF RDef K0 (m_.Templates)) O1
 refine l_seq q (l_append (sz := 6) (by_ := 112) (N := (m_.Templates).length) (ys := K0) s 1100 q q q u33 q q q q q o2 (Nat.zero_add _) q (rmC c1 q) (rmD c1) q fun q1 u1 a w hA hK s => ?_)
 refine S s<|alw 115 114 q<|aw q<|nw<|sw<|vw<|aw q<|nw fun a s => ?_
 obtain ⟨j1, hg, F1⟩ := zJ hg
 refine c_post (fun a w => ∃ (out_11 : (List Def)) (A12 : OA) (r0 : Nat) (F0 : List Value), j1 out_11 = some r ∧ St (cx f68 M w0) [(1, vP b2 0), (3, sl A12 out_11 r0)] [(1000, Ob.box b2 B 38), (700116, Ob.row (A12) ((out_11).length) (r0) 62 6 (F0))] (F ++ [(117, rdF RDef (F0) (out_11))]) a w) ?_ ?_
 ·apply wp_block
  replace s := s.al 119 115 q
  replace s := s.pk [(1000, 1000), (700118, 1100)] (by decide)
  refine c_loop (σ := Nat) (fun m1 a w => ∃ (out_15 : (List Def)) (c0 : Nat) (A16 : OA) (s0 : Nat) (e0 : List Value), r22_definitions_L0 n m_ j1 m1 out_15 c0 = some r ∧ St (cx f68 M w0) [(1, vP b2 0), (3, sl A16 out_15 s0), (4, vI (((c0 : Nat) : Int)))] [(1000, Ob.box b2 B 38), (700118, Ob.row (A16) ((out_15).length) (s0) 62 6 (e0))] (F ++ [(119, rdF RDef (e0) (out_15))]) a w) (fun m1 => m1) n ⟨(m_.Templates), (0), (q1), (u1), (K0), hg, (s.sb q q q)⟩ ?_
  clear s a; rintro m1 a w ⟨out_15, c0, A16, s0, e0, hg, s⟩
  rcases m1 with _ | m1
  ·rw [r22_definitions_L0] at hg; cases hg
  rw [r22_definitions_L0] at hg
  refine S s<|sw<|vw<|mw q<|yw q (bF 4 · u38 q)<|yw q (lB 1000 · u34 q)<|yw q (lS · q u34)<|yw q (y_lssN (i := c0) (j := ((m_.Entries).length)) · q q)<|nw fun a s => c_dec s q (fun H0 => ?_) (fun H0 => ?_)
  ·replace hg := br_t hg H0
   have z2 := SlR.mx (s.ft 104 q)
   obtain ⟨a0, h1, hg⟩ := zB hg
   obtain ⟨b1, hg⟩ := zC hg
   refine S s<|kw<|pw<|sw<|bw<|lw<|mw q<|yw q (bF 4 · u38 q)<|yw q (lB 1000 · u34 q)<|mw q fun a s => ?_
   obtain ⟨H2, D1, H1, J1, x2, B1, y1⟩ := SlR.elemX (s.ft 104 q) h1
   refine S s<|yw q (eL 7 c0 · u34 D1 (lt_of_get h1) q)<|yw q (pF 1 · u89 q) fun a s => ?_
   obtain ⟨p2, u2, M0, U0, O0, V0, P0, X0, rfl, Z1, D2, E2, a2, c2, d2⟩ := REntryDecl.open B1
   refine S s<|nsw 126 Z1<|nsw 127 a2<|nsw 128 c2<|nsw 129 d2<|yw q (lD [_, _, _, _, _, _] 1 · H1 J1 y1 u62 q) fun a s => ?_
   refine l_seq q (l_buildDense (sz := 6) s 1507 q q q u33 q q q q q q q fun s2 a w v1 hK s => ?_)
   clear v1
   replace s := s.add 130 (rdF RDef (cellsOfL [.agg #[_, _, _, _, _, _]]) ([a0.Def])) (RdAll.cons (by exact (RDef.mk' (x := a0.Def) (by omega) (by omega) (s.ft 127 q) (s.ft 128 q) (s.ft 129 q))) (rN))
   have j2 := row_src (s.wd.holds 1507 _ q) (RdAll.one (s.ft 130 q))
   refine l_seq q (l_append (sz := 6) (by_ := 112) (N := (out_15 ++ [a0.Def]).length) s 700118 q q q u33 q q q q q j2 (by rw [List.length_append]; try rfl) q (rmA b1 q) (rmB b1) q fun n1 r1 a w hA hK s => ?_)
   replace s := s.add 131 (rdF RDef (e0 ++ (cellsOfL [.agg #[vT a0.Def.Name, vI a0.Def.Strict.Op, vT a0.Def.Strict.Name, sl M0 a0.Def.Strict.Path U0, sl O0 a0.Def.Strict.Kids V0, sl P0 a0.Def.Defaults X0]])) (out_15 ++ [a0.Def])) (RdAll.append (s.ft 119 q) (s.ft 130 q))
   refine asg s q q fun a s => ?_
   apply wO
   refine p_inN ?_
   refine S s<|pw<|lw<|mw q<|yw q (y_addN (i := c0) (j := 1) · q q (in64.2 (by omega)))<|aw q<|nw<|alw 119 131 q fun a s => ?_
   exact ⟨m1, Nat.lt_succ_self _, ⟨(out_15 ++ [a0.Def]), (c0 + 1), (n1), (r1), (e0 ++ (cellsOfL [.agg #[vT a0.Def.Name, vI a0.Def.Strict.Op, vT a0.Def.Strict.Name, sl M0 a0.Def.Strict.Path U0, sl O0 a0.Def.Strict.Kids V0, sl P0 a0.Def.Defaults X0]])), hg, (s.sb q q q)⟩⟩
  replace hg := br_f hg H0
  apply wp_exit
  refine p_then ?_
  refine p_then ?_
  refine p_in ?_
  apply pN
  replace s := s.al 117 119 q
  replace s := s.pk [(1000, 1000), (700116, 700118)] (by decide)
  exact ⟨(out_15), (A16), (s0), (e0), hg, (s.sb q q q)⟩
 clear s a; rintro a w ⟨out_11, A12, r0, F0, hg, s⟩
 subst F1
 refine S s<|sw<|vw<|aw q<|nw fun a s => ?_
 obtain ⟨k1, hg, G1⟩ := zJ hg
 refine c_post (fun a w => ∃ (out_35 : (List Def)) (A36 : OA) (G0 : Nat) (h0 : List Value), k1 out_35 = some r ∧ St (cx f68 M w0) [(1, vP b2 0), (3, sl A36 out_35 G0)] [(1000, Ob.box b2 B 38), (700132, Ob.row (A36) ((out_35).length) (G0) 62 6 (h0))] (F ++ [(133, rdF RDef (h0) (out_35))]) a w) ?_ ?_
 ·apply wp_block
  replace s := s.al 135 117 q
  replace s := s.pk [(1000, 1000), (700134, 700116)] (by decide)
  refine c_loop (σ := Nat) (fun m2 a w => ∃ (out_39 : (List Def)) (d0 : Nat) (A40 : OA) (t0 : Nat) (g0 : List Value), r22_definitions_L1 n m_ k1 m2 out_39 d0 = some r ∧ St (cx f68 M w0) [(1, vP b2 0), (3, sl A40 out_39 t0), (5, vI (((d0 : Nat) : Int)))] [(1000, Ob.box b2 B 38), (700134, Ob.row (A40) ((out_39).length) (t0) 62 6 (g0))] (F ++ [(135, rdF RDef (g0) (out_39))]) a w) (fun m2 => m2) n ⟨(out_11), (0), (A12), (r0), (F0), hg, (s.sb q q q)⟩ ?_
  clear s a; rintro m2 a w ⟨out_39, d0, A40, t0, g0, hg, s⟩
  rcases m2 with _ | m2
  ·rw [r22_definitions_L1] at hg; cases hg
  rw [r22_definitions_L1] at hg
  refine S s<|sw<|vw<|mw q<|yw q (bF 5 · u38 q)<|yw q (lB 1000 · u35 q)<|yw q (lS · q u35)<|yw q (y_lssN (i := d0) (j := ((m_.LexRules).length)) · q q)<|nw fun a s => c_dec s q (fun I0 => ?_) (fun I0 => ?_)
  ·replace hg := br_t hg I0
   have B2 := SlR.mx (s.ft 105 q)
   obtain ⟨b0, i1, hg⟩ := zB hg
   obtain ⟨d1, hg⟩ := zC hg
   refine S s<|kw<|pw<|sw<|bw<|lw<|mw q<|yw q (bF 5 · u38 q)<|yw q (lB 1000 · u35 q)<|mw q fun a s => ?_
   obtain ⟨I2, E1, I1, K1, y2, C1, z1⟩ := SlR.elemX (s.ft 105 q) i1
   refine S s<|yw q (eL 8 d0 · u35 E1 (lt_of_get i1) q)<|yw q (pF 2 · u94 q) fun a s => ?_
   obtain ⟨q2, v2, Q0, Y0, R0, Z0, S0, a1, rfl, e2, F2, G2, g2, h2, i2⟩ := RLexDecl.open C1
   refine S s<|nsw 142 e2<|nsw 143 g2<|nsw 144 h2<|nsw 145 i2<|yw q (lD [_, _, _, _, _, _] 2 · I1 K1 z1 u62 q) fun a s => ?_
   refine l_seq q (l_buildDense (sz := 6) s 1907 q q q u33 q q q q q q q fun t2 a w w1 hK s => ?_)
   clear w1
   replace s := s.add 146 (rdF RDef (cellsOfL [.agg #[_, _, _, _, _, _]]) ([b0.Def])) (RdAll.cons (by exact (RDef.mk' (x := b0.Def) (by omega) (by omega) (s.ft 143 q) (s.ft 144 q) (s.ft 145 q))) (rN))
   have k2 := row_src (s.wd.holds 1907 _ q) (RdAll.one (s.ft 146 q))
   refine l_seq q (l_append (sz := 6) (by_ := 112) (N := (out_39 ++ [b0.Def]).length) s 700134 q q q u33 q q q q q k2 (by rw [List.length_append]; try rfl) q (rmA d1 q) (rmB d1) q fun o1 s1 a w hA hK s => ?_)
   replace s := s.add 147 (rdF RDef (g0 ++ (cellsOfL [.agg #[vT b0.Def.Name, vI b0.Def.Strict.Op, vT b0.Def.Strict.Name, sl Q0 b0.Def.Strict.Path Y0, sl R0 b0.Def.Strict.Kids Z0, sl S0 b0.Def.Defaults a1]])) (out_39 ++ [b0.Def])) (RdAll.append (s.ft 135 q) (s.ft 146 q))
   refine asg s q q fun a s => ?_
   apply wO
   refine p_inN ?_
   refine S s<|pw<|lw<|mw q<|yw q (y_addN (i := d0) (j := 1) · q q (in64.2 (by omega)))<|aw q<|nw<|alw 135 147 q fun a s => ?_
   exact ⟨m2, Nat.lt_succ_self _, ⟨(out_39 ++ [b0.Def]), (d0 + 1), (o1), (s1), (g0 ++ (cellsOfL [.agg #[vT b0.Def.Name, vI b0.Def.Strict.Op, vT b0.Def.Strict.Name, sl Q0 b0.Def.Strict.Path Y0, sl R0 b0.Def.Strict.Kids Z0, sl S0 b0.Def.Defaults a1]])), hg, (s.sb q q q)⟩⟩
  replace hg := br_f hg I0
  apply wp_exit
  refine p_then ?_
  refine p_then ?_
  refine p_in ?_
  apply pN
  replace s := s.al 133 135 q
  replace s := s.pk [(1000, 1000), (700132, 700134)] (by decide)
  exact ⟨(out_39), (A40), (t0), (g0), hg, (s.sb q q q)⟩
 clear s a; rintro a w ⟨out_35, A36, G0, h0, hg, s⟩
 subst G1
 obtain ⟨e1, hg⟩ := zC hg
 refine S s<|sw<|lw<|mw q<|yw q (bF 6 · u38 q)<|yw q (lB 1000 · u33 q) fun a s => ?_
 obtain ⟨J0, l2, L1⟩ := SlR.src (s.ft 106 q)
 replace s := s.add 150 (rdF RDef J0 (m_.Rules)) L1
 refine l_seq q (l_append (sz := 6) (by_ := 112) (N := (out_35 ++ m_.Rules).length) s 700132 q q q u33 q q q q q l2 (by rw [List.length_append]; try rfl) q (rmA e1 q) (rmB e1) q fun r2 w2 a w hA hK s => ?_)
 replace s := s.add 151 (rdF RDef (h0 ++ J0) (out_35 ++ m_.Rules)) (RdAll.append (s.ft 133 q) (s.ft 150 q))
 obtain ⟨g1, hg⟩ := zC hg
 refine S s<|aw q<|nw<|sw<|lw<|mw q<|yw q (bF 7 · u38 q)<|yw q (lB 1000 · u33 q) fun a s => ?_
 obtain ⟨l1, n2, M1⟩ := SlR.src (s.ft 107 q)
 replace s := s.add 154 (rdF RDef l1 (m_.Roots)) M1
 refine l_seq q (l_append (sz := 6) (by_ := 112) (N := ((out_35 ++ m_.Rules) ++ m_.Roots).length) s 700132 q q q u33 q q q q q n2 (by simp only [List.length_append]; try rfl) q (rmA g1 q) (rmB g1) q fun p1 t1 a w hA hK s => ?_)
 replace s := s.add 155 (rdF RDef ((h0 ++ J0) ++ l1) ((out_35 ++ m_.Rules) ++ m_.Roots)) (RdAll.append (s.ft 151 q) (s.ft 154 q))
 refine S s<|aw q<|nw fun a s => ?_
 apply wp_ret
 obtain rfl := si hg
 refine fin1 (fn := Tryz.f68) s q (r_tmp s q) ?_
 exact ⟨(p1), (t1), q, (s.rowOut (R := RDef) (kk := 700132) q q (s.ft 155 q))⟩
theorem c_r19_Named (n : Nat) : ∀ (M : Bs) (w0 : World) (hM : bM M w0) (d_ : Desc) (a0 : OA) (c0 : Nat) (b0 : OA) (d0 : Nat) (L0 : (d_.Name).length ≤ 9223372036854775807) (p0 : sR Rep.str M w0 a0 c0 d_.Path) (q0 : sR RDesc M w0 b0 d0 d_.Kids) (op_ : Int) (l_ : (List (List UInt8))) (h0 : OA) (j0 : Nat) (r0 : sR Rep.str M w0 h0 j0 l_) (r : (List (List UInt8))) (hg : r19_Named n d_ op_ l_ = some r),
    CA Tryz.prog 108 [.agg #[.int .i64 (d_.Op), vT d_.Name, sl a0 d_.Path c0, sl b0 d_.Kids d0], .int .i64 (op_), sl h0 l_ j0] w0 (fun v w => ∃ (n0 : OA), ∃ (o0 : Nat), v = sl n0 r o0 ∧ (SlR Rep.str M w n0 (r).length o0 (r))) := by
 induction n with
 | zero => intros; rename_i hg; rw [r19_Named] at hg; cases hg
 | succ n c_self =>
 intro M w0 hM d_ a0 c0 b0 d0 L0 p0 q0 op_ l_ h0 j0 r0 r hg
 rw [r19_Named] at hg
 refine enter M noB func108 q q hM ?_
 intro a s
 refine S s<|esw 101 p0<|esw 102 q0<|esw 103 r0<|vw fun a s => ?_
 refine l_seq q (l_box (zs := [vI d_.Op, vT d_.Name, sl a0 d_.Path c0, sl b0 d_.Kids d0]) s 1000 q q q q fun b2 a w hb hK s => ?_)
 refine S s<|aw q<|nw<|sw<|vw<|yw q (bF 0 · u60 q)<|yw q (lB 1000 · u3 q)<|mw q<|yw q (y_eql · q q)<|nw fun a s => ?_
 obtain ⟨k3, hg, C0⟩ := zJ hg
 refine c_post (fun a w => ∃ (g0 : (List (List UInt8))) (A5 : OA) (c6 : Nat), k3 g0 = some r ∧ St (cx f108 M w0) [(1, vI op_), (2, sl A5 g0 c6), (3, vP b2 0)] [(1000, Ob.box b2 [vI d_.Op, vT d_.Name, sl a0 d_.Path c0, sl b0 d_.Kids d0] 60)] [(101, sF Rep.str a0 c0 d_.Path), (102, sF RDesc b0 d0 d_.Kids), (104, sF Rep.str A5 c6 g0)] a w) ?_ ?_
 ·refine c_dec s q (fun m0 => ?_) (fun m0 => ?_)
  ·replace hg := br_t hg m0
   obtain ⟨r8, I0, hg⟩ := zB hg
   refine S s<|lw<|mw q<|yw q (bF 1 · u60 q)<|yw q (lB 1000 · u9 q) fun a s => ?_
   refine lC s q func35 (c_r19_With n _ _ s.lt _ _ _ (s.ft 103 q) _ (by omega) _ I0) fun X0 a w hK hp s => ?_
   obtain ⟨t0, v0, rfl, J0⟩ := hp
   refine S s<|nsw 106 J0<|aw q<|nw<|alw 104 106 q fun a s => ?_
   exact ⟨(r8), (t0), (v0), hg, (s.sb q q q)⟩
  replace hg := br_f hg m0
  refine S s<|kw<|pw<|alw 104 103 q fun a s => ?_
  exact ⟨(l_), (h0), (j0), hg, (s.sb q q q)⟩
 clear s a; rintro a w ⟨g0, A5, c6, hg, s⟩
 subst C0
 refine S s<|sw<|vw<|aw q<|nw<|bw<|alw 107 104 q fun a s => ?_
 refine c_loop (σ := Nat) (fun m1 a w => ∃ (k0 : (List (List UInt8))) (e0 : Nat) (A14 : OA) (i0 : Nat), r19_Named_L0 n d_ op_ (r19_Named n) m1 k0 e0 = some r ∧ St (cx f108 M w0) [(1, vI op_), (2, sl A14 k0 i0), (3, vP b2 0), (7, vI (((e0 : Nat) : Int)))] [(1000, Ob.box b2 [vI d_.Op, vT d_.Name, sl a0 d_.Path c0, sl b0 d_.Kids d0] 60)] [(101, sF Rep.str a0 c0 d_.Path), (102, sF RDesc b0 d0 d_.Kids), (107, sF Rep.str A14 i0 k0)] a w) (fun m1 => m1) n ⟨(g0), (0), (A5), (c6), hg, (s.sb q q q)⟩ ?_
 clear s a; rintro m1 a w ⟨k0, e0, A14, i0, hg, s⟩
 rcases m1 with _ | m1
 ·rw [r19_Named_L0] at hg; cases hg
 rw [r19_Named_L0] at hg
 refine S s<|sw<|vw<|mw q<|yw q (bF 3 · u60 q)<|yw q (lB 1000 · u58 q)<|yw q (lS · q u58)<|yw q (y_lssN (i := e0) (j := ((d_.Kids).length)) · q q)<|nw fun a s => c_dec s q (fun l0 => ?_) (fun l0 => ?_)
 ·replace hg := br_t hg l0
  have T0 := SlR.mx (s.ft 102 q)
  obtain ⟨Z0, s0, hg⟩ := zB hg
  obtain ⟨M0, H0, hg⟩ := zB hg
  refine S s<|kw<|pw<|sw<|bw<|lw<|yw q (bF 3 · u60 q)<|yw q (lB 1000 · u58 q)<|mw q fun a s => ?_
  obtain ⟨V0, B0, D0, E0, S0, z0, y0⟩ := SlR.elemX (s.ft 102 q) s0
  refine qq s q (eL 4 e0 s u58 B0 (lt_of_get s0) q) fun a s => ?_
  obtain ⟨O0, Q0, P0, R0, rfl, U0, F0, G0⟩ := RDesc.open z0
  refine S s<|nsw 111 F0<|nsw 112 G0<|yw q (y_ldp · q D0 E0 (by simpa using y0) u60 q q)<|mw q<|mw q fun a s => ?_
  refine lC s q func108 (c_self _ _ s.lt _ _ _ _ _ (by omega) (s.ft 111 q) (s.ft 112 q) _ _ _ _ (s.ft 107 q) _ H0) fun Y0 a w hK hp s => ?_
  obtain ⟨u0, x0, rfl, K0⟩ := hp
  refine S s<|nsw 113 K0<|aw q fun a s => ?_
  apply wO
  refine p_inN ?_
  refine S s<|pw<|lw<|mw q<|yw q (y_addN (i := e0) (j := 1) · q q (in64.2 (by omega)))<|aw q<|nw<|alw 107 113 q fun a s => ?_
  exact ⟨m1, Nat.lt_succ_self _, ⟨(M0), (e0 + 1), (u0), (x0), hg, (s.sb q q q)⟩⟩
 replace hg := br_f hg l0
 apply wp_exit
 refine p_then ?_
 refine p_then ?_
 refine p_in ?_
 refine S s<|pw<|vw<|mw q<|aw q<|nw fun a s => ?_
 apply wp_ret
 obtain rfl := si hg
 refine fin1 (fn := Tryz.f108) s q (r_tmp s q) ?_
 exact ⟨(A14), (i0), q, (s.out (k := 107) q)⟩
theorem c_r19_Names (n : Nat) (M : Bs) (w0 : World) (hM : bM M w0) (d_ : Desc) (a0 : OA) (c0 : Nat) (b0 : OA) (d0 : Nat) (t0 : (d_.Name).length ≤ 9223372036854775807) (n0 : sR Rep.str M w0 a0 c0 d_.Path) (o0 : sR RDesc M w0 b0 d0 d_.Kids) (r : ((List (List UInt8)) × (List (List UInt8)))) (hg : r19_Names n d_ = some r) :
    CA Tryz.prog 69 [.agg #[.int .i64 (d_.Op), vT d_.Name, sl a0 d_.Path c0, sl b0 d_.Kids d0]] w0 (fun v w => ∃ (e0 : OA), ∃ (h0 : Nat), ∃ (g0 : OA), ∃ (i0 : Nat), v = .tuple #[sl e0 r.1 h0, sl g0 r.2 i0] ∧ (SlR Rep.str M w e0 (r.1).length h0 (r.1)) ∧ (SlR Rep.str M w g0 (r.2).length i0 (r.2))) := by
 unfold r19_Names at hg
 refine enter M noB func69 q q hM ?_
 intro a s
 refine S s<|esw 101 n0<|esw 102 o0<|vw fun a s => ?_
 refine l_seq q (l_box (zs := [vI d_.Op, vT d_.Name, sl a0 d_.Path c0, sl b0 d_.Kids d0]) s 1000 q q q q fun b2 a w hb hK s => ?_)
 obtain ⟨r3, p0, hg⟩ := zB hg
 obtain ⟨r6, q0, hg⟩ := zB hg
 refine S s<|aw q<|aw q<|nw<|sw fun a s => ?_
 refine d_plan s [] [(0, some 1000), (2, some 1000), (1, none), (3, none), (4, none), (5, none)] q (by kernel_rfl) (by kernel_rfl) q ?_; clear s; intro wr hZ s; have hR := s.wd
 refine S s<|qw hR q (y_loadAll (kk := 1000) · q q u60 q q)<|qw hR q (y_loadAll (kk := 1000) · q q u60 q q) fun a s => ?_
 refine l_take s q q (l_call (cap := []) s q func108 q (by kernel_rfl) q q (c_r19_Named n _ _ s.lt _ _ _ _ _ (by omega) (s.ft 101 q) (s.ft 102 q) _ [] (none) (0) (SlR.nil_ _ _ _) _ p0) fun v9 a w hK hp s => ?_)
 refine gz hZ hK fun hZ => ?_; clear hK
 obtain ⟨j0, l0, rfl, r0⟩ := hp
 replace s := s.ns 105 r0
 refine l_take s q q (l_call (cap := []) s q func108 q (by kernel_rfl) q q (c_r19_Named n _ _ s.lt _ _ _ _ _ (by omega) (s.ft 101 q) (s.ft 102 q) _ [] (none) (0) (SlR.nil_ _ _ _) _ q0) fun u0 a w hK hp s => ?_)
 refine gz hZ hK fun hZ => ?_; clear hK
 obtain ⟨k0, m0, rfl, s0⟩ := hp
 refine S s<|nsw 106 s0<|tw q (y_assign · q)<|tw q (y_assign · q) fun a s => ?_
 clear hR hZ
 apply pN
 apply wp_ret
 obtain rfl := si hg
 refine fin2 (fn := Tryz.f69) s q (r_tmp s q) (r_tmp s q) ?_
 exact ⟨(j0), (l0), (k0), (m0), q, (s.out (k := 105) q), (s.out (k := 106) q)⟩
theorem c_r22_used (n : Nat) (M : Bs) (w0 : World) (hM : bM M w0) (t_ : Module) (M0 : OA) (h1 : Nat) (O0 : OA) (i1 : Nat) (P0 : OA) (j1 : Nat) (Q0 : OA) (k1 : Nat) (R0 : OA) (l1 : Nat) (S0 : OA) (n1 : Nat) (T0 : OA) (o1 : Nat) (U0 : OA) (p1 : Nat) (L0 : OA) (g1 : Nat) (l5 : (t_.Name).length ≤ 9223372036854775807) (B3 : sR Rep.str M w0 M0 h1 t_.Imports) (C3 : sR RTypeDecl M w0 O0 i1 t_.Types) (D3 : sR RDef M w0 P0 j1 t_.Templates) (E3 : sR REntryDecl M w0 Q0 k1 t_.Entries) (F3 : sR RLexDecl M w0 R0 l1 t_.LexRules) (G3 : sR RDef M w0 S0 n1 t_.Rules) (H3 : sR RDef M w0 T0 o1 t_.Roots) (I3 : sR (Rep.list Rep.str) M w0 U0 p1 t_.Checks) (z3 : sR Rep.str M w0 L0 g1 t_.Drops) (r : (List (List UInt8))) (hg : r22_used n t_ = some r) :
    CA Tryz.prog 46 [.agg #[vT t_.Name, sl M0 t_.Imports h1, sl O0 t_.Types i1, sl P0 t_.Templates j1, sl Q0 t_.Entries k1, sl R0 t_.LexRules l1, sl S0 t_.Rules n1, sl T0 t_.Roots o1, sl U0 t_.Checks p1, sl L0 t_.Drops g1]] w0 (fun v w => ∃ (F1 : OA), ∃ (M1 : Nat), v = sl F1 r M1 ∧ (SlR Rep.str M w F1 (r).length M1 (r))) := by
 unfold r22_used at hg
 refine enter M noB func46 q q hM ?_
 intro a s
 let F : Al Fact := [(101, sF Rep.str M0 h1 t_.Imports), (102, sF RTypeDecl O0 i1 t_.Types), (103, sF RDef P0 j1 t_.Templates), (104, sF REntryDecl Q0 k1 t_.Entries), (105, sF RLexDecl R0 l1 t_.LexRules), (106, sF RDef S0 n1 t_.Rules), (107, sF RDef T0 o1 t_.Roots), (108, sF (Rep.list Rep.str) U0 p1 t_.Checks), (109, sF Rep.str L0 g1 t_.Drops)]
 let B : List Value := [vT t_.Name, sl M0 t_.Imports h1, sl O0 t_.Types i1, sl P0 t_.Templates j1, sl Q0 t_.Entries k1, sl R0 t_.LexRules l1, sl S0 t_.Rules n1, sl T0 t_.Roots o1, sl U0 t_.Checks p1, sl L0 t_.Drops g1]
 refine S s<|esw 101 B3<|esw 102 C3<|esw 103 D3<|esw 104 E3<|esw 105 F3<|esw 106 G3<|esw 107 H3<|esw 108 I3<|esw 109 z3<|vw fun a s => ?_
 refine l_seq q (l_box (zs := B) s 1000 q q q q fun b2 a w hb hK s => ?_)
 refine S s<|aw q<|nw<|vw<|aw q<|nw<|sw<|vw<|aw q<|nw fun a s => ?_
 obtain ⟨k3, hg, X2⟩ := zJ hg
 refine c_post (fun a w => ∃ (C0 : (List (List UInt8))) (A5 : OA) (c6 : Nat) (s1 : List Value), k3 C0 = some r ∧ St (cx f46 M w0) [(1, vP b2 0), (3, sl A5 C0 c6)] [(1000, Ob.box b2 B 38), (700110, Ob.row (A5) ((C0).length) (c6) 9 1 (s1))] (F ++ [(111, rdF Rep.str (s1) (C0))]) a w) ?_ ?_
 ·apply wp_block
  replace s := s.nilRow 700112 9 1 q
  replace s := s.add 113 (rdF Rep.str [] []) (rN)
  refine c_loop (σ := Nat) (fun m1 a w => ∃ (j0 : (List (List UInt8))) (g0 : Nat) (A9 : OA) (X0 : Nat) (u0 : List Value), r22_used_L0 n t_ k3 m1 j0 g0 = some r ∧ St (cx f46 M w0) [(1, vP b2 0), (3, sl A9 j0 X0), (4, vI (((g0 : Nat) : Int)))] [(1000, Ob.box b2 B 38), (700112, Ob.row (A9) ((j0).length) (X0) 9 1 (u0))] (F ++ [(113, rdF Rep.str (u0) (j0))]) a w) (fun m1 => m1) n ⟨([]), (0), (none), (0), ([]), hg, (s.sb q q q)⟩ ?_
  clear s a; rintro m1 a w ⟨j0, g0, A9, X0, u0, hg, s⟩
  rcases m1 with _ | m1
  ·rw [r22_used_L0] at hg; cases hg
  rw [r22_used_L0] at hg
  refine S s<|sw<|vw<|mw q<|yw q (bF 2 · u38 q)<|yw q (lB 1000 · u32 q)<|yw q (lS · q u32)<|yw q (y_lssN (i := g0) (j := ((t_.Types).length)) · q q)<|nw fun a s => c_dec s q (fun w1 => ?_) (fun w1 => ?_)
  ·replace hg := br_t hg w1
   have h5 := SlR.mx (s.ft 102 q)
   apply wp_skip
   apply pN
   apply wQ
   obtain ⟨a2, hg, V2⟩ := zJ hg
   refine c_post (fun a w => ∃ (B0 : (List (List UInt8))) (A17 : OA) (b1 : Nat) (q1 : List Value), a2 B0 = some r ∧ St (cx f46 M w0) [(1, vP b2 0), (3, sl A17 B0 b1), (4, vI (((g0 : Nat) : Int)))] [(1000, Ob.box b2 B 38), (700114, Ob.row (A17) ((B0).length) (b1) 9 1 (q1))] (F ++ [(115, rdF Rep.str (q1) (B0))]) a w) ?_ ?_
   ·obtain ⟨G0, y0, hg⟩ := zB hg
    obtain ⟨V1, hg⟩ := zC hg
    refine S s<|bw<|sw<|lw<|mw q<|yw q (bF 2 · u38 q)<|yw q (lB 1000 · u32 q)<|mw q fun a s => ?_
    obtain ⟨E5, M2, e3, q3, Y4, D2, t2⟩ := SlR.elemX (s.ft 102 q) y0
    refine S s<|yw q (eL 3 g0 · u32 M2 (lt_of_get y0) q)<|yw q (pF 1 · u49 q) fun a s => ?_
    obtain ⟨r4, J4, s4, K4, rfl, r5, P3, Q3⟩ := RTypeDecl.open D2
    refine S s<|nsw 120 P3<|nsw 121 Q3<|yw q (lP · e3 q3 (t2 1 _ q) u25 q) fun a s => ?_
    obtain ⟨E1, h4, y3⟩ := SlR.src (s.ft 120 q)
    replace s := s.add 122 (rdF Rep.str E1 (G0.Supers)) y3
    refine l_seq q (l_append (sz := 1) (by_ := 16) (N := (j0 ++ G0.Supers).length) s 700112 q q q u25 q q q q q h4 (by rw [List.length_append]; try rfl) q (rmA V1 q) (rmB V1) q fun h2 l2 a w hA hK s => ?_)
    replace s := s.add 123 (rdF Rep.str (u0 ++ E1) (j0 ++ G0.Supers)) (RdAll.append (s.ft 113 q) (s.ft 122 q))
    refine S s<|aw q<|nw<|vw<|aw q<|nw<|bw<|alw 125 123 q fun a s => ?_
    replace s := s.pk [(1000, 1000), (700124, 700112)] (by decide)
    refine c_loop (σ := Nat) (fun m2 a w => ∃ (i0 : (List (List UInt8))) (q0 : Nat) (A31 : OA) (c1 : Nat) (x0 : List Value), r22_used_L1 n a2 G0 m2 i0 q0 = some r ∧ St (cx f46 M w0) [(1, vP b2 0), (3, sl A31 i0 c1), (4, vI (((g0 : Nat) : Int))), (5, vI (((q0 : Nat) : Int)))] [(1000, Ob.box b2 B 38), (700124, Ob.row (A31) ((i0).length) (c1) 9 1 (x0))] (F ++ [(125, rdF Rep.str (x0) (i0))]) a w) (fun m2 => m2) n ⟨(j0 ++ G0.Supers), (0), (h2), (l2), (u0 ++ E1), hg, (s.sb q q q)⟩ ?_
    clear s a; rintro m2 a w ⟨i0, q0, A31, c1, x0, hg, s⟩
    rcases m2 with _ | m2
    ·rw [r22_used_L1] at hg; cases hg
    rw [r22_used_L1] at hg
    refine S s<|sw<|vw<|mw q<|yw q (bF 2 · u38 q)<|yw q (lB 1000 · u32 q)<|mw q fun a s => ?_
    obtain ⟨F5, O2, g3, r3, Z4, E2, u2⟩ := SlR.elemX (s.ft 102 q) y0
    refine S s<|yw q (eL 3 g0 · u32 O2 (lt_of_get y0) q)<|yw q (pF 2 · u49 q) fun a s => ?_
    obtain ⟨t4, L4, v4, M4, rfl, s5, R3, S3⟩ := RTypeDecl.open E2
    refine S s<|nsw 128 R3<|nsw 129 S3<|yw q (lP · g3 r3 (u2 2 _ q) u47 q)<|yw q (lS · q u47)<|yw q (y_lssN (i := q0) (j := ((G0.Feats).length)) · q q)<|nw fun a s => c_dec s q (fun y1 => ?_) (fun y1 => ?_)
    ·replace hg := br_t hg y1
     have i5 := SlR.mx (s.ft 129 q)
     obtain ⟨s0, Z1, hg⟩ := zB hg
     obtain ⟨X1, hg⟩ := zC hg
     refine S s<|kw<|pw<|sw<|bw<|lw<|mw q<|yw q (bF 2 · u38 q)<|yw q (lB 1000 · u32 q)<|mw q fun a s => ?_
     obtain ⟨G5, P2, h3, s3, a5, F2, v2⟩ := SlR.elemX (s.ft 102 q) y0
     refine S s<|yw q (eL 3 g0 · u32 P2 (lt_of_get y0) q)<|yw q (pF 2 · u49 q) fun a s => ?_
     obtain ⟨w4, O4, x4, P4, rfl, t5, T3, U3⟩ := RTypeDecl.open F2
     refine S s<|nsw 134 T3<|nsw 135 U3<|yw q (lP · h3 s3 (v2 2 _ q) u47 q)<|mw q fun a s => ?_
     obtain ⟨H5, Q2, i3, t3, b5, G2, w2⟩ := SlR.elemX (s.ft 135 q) Z1
     refine S s<|yw q (eL 2 q0 · u47 Q2 (lt_of_get Z1) q)<|yw q (pF 1 · u82 q) fun a s => ?_
     obtain ⟨rfl, u5, v5⟩ := RFeatDecl.open G2
     refine qq s q (lP s i3 t3 (w2 1 _ q) u9 q) fun a s => ?_
     refine l_seq q (l_buildDense (sz := 1) s 1911 q q q u25 q q q q q q q fun F4 a w p2 hK s => ?_)
     clear p2
     replace s := s.add 136 (rdF Rep.str (cellsOfL [vT s0.Value]) ([s0.Value])) (RdAll.cons (by exact ⟨q, (by omega)⟩) (rN))
     have i4 := row_src (s.wd.holds 1911 _ q) (RdAll.one (s.ft 136 q))
     refine l_seq q (l_append (sz := 1) (by_ := 16) (N := (i0 ++ [s0.Value]).length) s 700124 q q q u25 q q q q q i4 (by rw [List.length_append]; try rfl) q (rmA X1 q) (rmB X1) q fun i2 n2 a w hA hK s => ?_)
     replace s := s.add 137 (rdF Rep.str (x0 ++ (cellsOfL [vT s0.Value])) (i0 ++ [s0.Value])) (RdAll.append (s.ft 125 q) (s.ft 136 q))
     refine asg s q q fun a s => ?_
     apply wO
     refine p_inN ?_
     refine S s<|pw<|lw<|mw q<|yw q (y_addN (i := q0) (j := 1) · q q (in64.2 (by omega)))<|aw q<|nw<|alw 125 137 q fun a s => ?_
     exact ⟨m2, Nat.lt_succ_self _, ⟨(i0 ++ [s0.Value]), (q0 + 1), (i2), (n2), (x0 ++ (cellsOfL [vT s0.Value])), hg, (s.sb q q q)⟩⟩
    replace hg := br_f hg y1
    apply wp_exit
    refine p_then ?_
    refine p_then ?_
    refine p_in ?_
    refine p_inN ?_
    apply pN
    replace s := s.al 115 125 q
    replace s := s.pk [(1000, 1000), (700114, 700124)] (by decide)
    exact ⟨(i0), (A31), (c1), (x0), hg, (s.sb q q q)⟩
   clear s a; rintro a w ⟨B0, A17, b1, q1, hg, s⟩
   subst V2
   refine S s<|lw<|mw q<|yw q (y_addN (i := g0) (j := 1) · q q (in64.2 (by omega)))<|aw q<|nw<|alw 113 115 q fun a s => ?_
   replace s := s.pk [(1000, 1000), (700112, 700114)] (by decide)
   exact ⟨m1, Nat.lt_succ_self _, ⟨(B0), (g0 + 1), (A17), (b1), (q1), hg, (s.sb q q q)⟩⟩
  replace hg := br_f hg w1
  apply wp_exit
  refine p_then ?_
  refine p_then ?_
  refine p_in ?_
  apply pN
  replace s := s.al 111 113 q
  replace s := s.pk [(1000, 1000), (700110, 700112)] (by decide)
  exact ⟨(j0), (A9), (X0), (u0), hg, (s.sb q q q)⟩
 clear s a; rintro a w ⟨C0, A5, c6, s1, hg, s⟩
 subst X2
 obtain ⟨a0, d4, hg⟩ := zB hg
 refine S s<|sw<|lw<|yw q (y_loadAll (kk := 1000) · q q u38 q q) fun a s => ?_
 refine lC s q func68 (c_r22_definitions n _ _ s.lt _ _ _ _ _ _ _ _ _ _ _ _ _ _ _ _ _ _ _ (by omega) (s.ft 101 q) (s.ft 102 q) (s.ft 103 q) (s.ft 104 q) (s.ft 105 q) (s.ft 106 q) (s.ft 107 q) (s.ft 108 q) (s.ft 109 q) _ d4) fun L5 a w hK hp s => ?_
 obtain ⟨c0, d0, rfl, l4⟩ := hp
 refine S s<|nsw 139 l4<|aw q<|nw<|sw<|vw<|aw q<|nw<|bw<|alw 141 111 q fun a s => ?_
 replace s := s.pk [(1000, 1000), (700140, 700110)] (by decide)
 refine c_loop (σ := Nat) (fun m3 a w => ∃ (D0 : (List (List UInt8))) (b0 : Nat) (A63 : OA) (K0 : Nat) (r1 : List Value), r22_used_L2 n a0 m3 D0 b0 = some r ∧ St (cx f46 M w0) [(3, sl A63 D0 K0), (6, sl c0 a0 d0), (7, vI (((b0 : Nat) : Int)))] [(700140, Ob.row (A63) ((D0).length) (K0) 9 1 (r1))] [(139, sF RDef c0 d0 a0), (141, rdF Rep.str (r1) (D0))] a w) (fun m3 => m3) n ⟨(C0), (0), (A5), (c6), (s1), hg, (s.sb q q q)⟩ ?_
 clear s a; rintro m3 a w ⟨D0, b0, A63, K0, r1, hg, s⟩
 rcases m3 with _ | m3
 ·rw [r22_used_L2] at hg; cases hg
 rw [r22_used_L2] at hg
 refine S s<|sw<|vw<|mw q<|mw q<|yw q (lS · q u33)<|yw q (y_lssN (i := b0) (j := ((a0).length)) · q q)<|nw fun a s => c_dec s q (fun z1 => ?_) (fun z1 => ?_)
 ·replace hg := br_t hg z1
  have j5 := SlR.mx (s.ft 139 q)
  apply wp_skip
  apply pN
  apply wQ
  obtain ⟨c2, hg, Y2⟩ := zJ hg
  refine c_post (fun a w => ∃ (E0 : (List (List UInt8))) (A71 : OA) (d1 : Nat) (t1 : List Value), c2 E0 = some r ∧ St (cx f46 M w0) [(3, sl A71 E0 d1), (6, sl c0 a0 d0), (7, vI (((b0 : Nat) : Int)))] [(700142, Ob.row (A71) ((E0).length) (d1) 9 1 (t1))] [(139, sF RDef c0 d0 a0), (143, rdF Rep.str (t1) (E0))] a w) ?_ ?_
  ·refine S s<|bw<|vw<|aw q<|nw<|bw<|alw 145 141 q fun a s => ?_
   replace s := s.pk [(700144, 700140)] (by decide)
   refine c_loop (σ := Nat) (fun m4 a w => ∃ (e0 : (List (List UInt8))) (m0 : Int) (A75 : OA) (t0 : Nat) (k0 : List Value), r22_used_L3 n a0 b0 c2 m4 e0 m0 = some r ∧ St (cx f46 M w0) [(3, sl A75 e0 t0), (6, sl c0 a0 d0), (7, vI (((b0 : Nat) : Int))), (8, vI m0)] [(700144, Ob.row (A75) ((e0).length) (t0) 9 1 (k0))] [(139, sF RDef c0 d0 a0), (145, rdF Rep.str (k0) (e0))] a w) (fun m4 => m4) n ⟨(D0), (-1), (A63), (K0), (r1), hg, (s.sb q q q)⟩ ?_
   clear s a; rintro m4 a w ⟨e0, m0, A75, t0, k0, hg, s⟩
   rcases m4 with _ | m4
   ·rw [r22_used_L3] at hg; cases hg
   rw [r22_used_L3] at hg
   obtain ⟨o0, z0, hg⟩ := zB hg
   refine S s<|sw<|sw<|lw<|mw q<|mw q<|mw q fun a s => ?_
   obtain ⟨I5, R2, j3, v3, c5, H2, x2⟩ := SlR.elemX (s.ft 139 q) z0
   refine S s<|yw q (eL 6 b0 · u33 R2 (lt_of_get z0) q)<|yw q (pF 5 · u62 q) fun a s => ?_
   obtain ⟨y4, Q4, z4, R4, B4, S4, rfl, w5, x5, V3, X3, Y3⟩ := RDef.open H2
   refine S s<|nsw 149 V3<|nsw 150 X3<|nsw 151 Y3<|yw q (lP · j3 v3 (x2 5 _ q) u58 q)<|yw q (lS · q u58)<|yw q (y_lss · q q)<|nw fun a s => c_dec s q (fun B1 => ?_) (fun B1 => ?_)
   ·replace hg := br_t hg B1
    apply wp_skip
    apply pN
    apply wQ
    obtain ⟨d2, hg, Z2⟩ := zJ hg
    refine c_post (fun a w => ∃ (F0 : (List (List UInt8))) (A87 : OA) (e1 : Nat) (u1 : List Value), d2 F0 = some r ∧ St (cx f46 M w0) [(3, sl A87 F0 e1), (6, sl c0 a0 d0), (7, vI (((b0 : Nat) : Int))), (8, vI m0)] [(700152, Ob.row (A87) ((F0).length) (e1) 9 1 (u1))] [(139, sF RDef c0 d0 a0), (153, rdF Rep.str (u1) (F0))] a w) ?_ ?_
    ·refine S s<|bw<|vw<|mw q<|mw q fun a s => ?_
     obtain ⟨J5, S2, l3, w3, d5, I2, y2⟩ := SlR.elemX (s.ft 139 q) z0
     refine S s<|yw q (eL 6 b0 · u33 S2 (lt_of_get z0) q)<|yw q (pF 1 · u62 q) fun a s => ?_
     obtain ⟨I1, Q1, J1, R1, C4, T4, rfl, y5, z5, Z3, a4, b4⟩ := RDef.open I2
     refine S s<|nsw 157 Z3<|nsw 158 a4<|nsw 159 b4<|yw q (lD [_, _, _, _] 1 · l3 w3 y2 u60 q) fun a s => ?_
     refine l_seq q (l_alloc (zs := [vI 0, vT ([]), nS, nS]) s 2705 q q q q fun L1 a w hb hK s => ?_)
     refine l_seq q (l_store (n := 4) (cs' := [vI o0.Strict.Op, vT o0.Strict.Name, sl I1 o0.Strict.Path Q1, sl J1 o0.Strict.Kids R1]) s 2705 q q q q q q q q ?_); clear s; intro w hK s; clear hK
     refine S s<|nw<|sw<|vw<|mw q<|yw q (y_geq · q q)<|nw fun a s => ?_
     obtain ⟨n4, hg, a3⟩ := zJ hg
     refine c_post (fun a w => ∃ (V0 : Int) (I0 : (List UInt8)) (J0 : (List (List UInt8))) (H0 : (List Desc)) (A100 : OA) (Y0 : Nat) (A103 : OA) (Z0 : Nat), n4 V0 I0 J0 H0 = some r ∧ ((I0).length ≤ 9223372036854775807) ∧ St (cx f46 M w0) [(3, sl A75 e0 t0), (6, sl c0 a0 d0), (7, vI (((b0 : Nat) : Int))), (8, vI m0), (9, vP L1 0)] [(2705, Ob.box L1 [vI V0, vT I0, sl A100 J0 Y0, sl A103 H0 Z0] 60), (700144, Ob.row (A75) ((e0).length) (t0) 9 1 (k0))] [(139, sF RDef c0 d0 a0), (145, rdF Rep.str (k0) (e0)), (160, sF Rep.str A100 Y0 J0), (161, sF RDesc A103 Z0 H0)] a w) ?_ ?_
     ·refine c_dec s q (fun v1 => ?_) (fun v1 => ?_)
      ·replace hg := br_t hg v1
       obtain ⟨n0, C1, hg⟩ := zB hg
       refine S s<|lw<|mw q<|mw q fun a s => ?_
       obtain ⟨B5, J2, b3, n3, U4, z2, q2⟩ := SlR.elemX (s.ft 139 q) z0
       refine S s<|yw q (eL 6 b0 · u33 J2 (lt_of_get z0) q)<|yw q (pF 5 · u62 q) fun a s => ?_
       obtain ⟨o4, G4, p4, H4, q4, I4, rfl, n5, o5, J3, K3, L3⟩ := RDef.open z2
       refine S s<|nsw 167 J3<|nsw 168 K3<|nsw 169 L3<|yw q (lP · b3 n3 (q2 5 _ q) u58 q)<|mw q fun a s => ?_
       obtain ⟨C5, K2, c3, o3, V4, B2, r2⟩ := SlR.elemX (s.ft 169 q) (ix_some C1).1
       refine qq s q (y_elem (sz := 4) (i := ((m0).toNat)) s q q u58 q K2 (ix_some C1).2.1 (lt_of_get (ix_some C1).1)) fun a s => ?_
       obtain ⟨G1, O1, H1, P1, rfl, p5, M3, O3⟩ := RDesc.open B2
       refine S s<|nsw 170 M3<|nsw 171 O3<|yw q (y_ldp · q c3 o3 (by simpa using r2) u60 q q) fun a s => ?_
       refine l_seq q (l_store (n := 4) (cs' := [vI n0.Op, vT n0.Name, sl G1 n0.Path O1, sl H1 n0.Kids P1]) s 2705 q q q q q q q q ?_); clear s; intro w hK s; clear hK
       refine S s<|nw<|alw 160 170 q<|alw 161 171 q fun a s => ?_
       exact ⟨(n0.Op), (n0.Name), (n0.Path), (n0.Kids), (G1), (O1), (H1), (P1), hg, (by omega), (s.sb q q q)⟩
      replace hg := br_f hg v1
      refine S s<|kw<|pw<|alw 160 157 q<|alw 161 158 q fun a s => ?_
      exact ⟨(o0.Strict.Op), (o0.Strict.Name), (o0.Strict.Path), (o0.Strict.Kids), (I1), (Q1), (J1), (R1), hg, (by omega), (s.sb q q q)⟩
     clear s a; rintro a w ⟨V0, I0, J0, H0, A100, Y0, A103, Z0, hg, k5, s⟩
     subst a3
     obtain ⟨l0, c4, hg⟩ := zB hg
     refine S s<|sw<|lw<|yw q (y_loadAll (kk := 2705) · q q u60 q q) fun a s => ?_
     refine lC s q func69 (c_r19_Names n _ _ s.lt (Desc.mk V0 I0 J0 H0) (A100) (Y0) (A103) (Z0) (by omega) (s.ft 160 q) (s.ft 161 q) _ c4) fun K5 a w hK hp s => ?_
     obtain ⟨D4, e5, K1, S1, rfl, j4, k4⟩ := hp
     obtain ⟨T1, hg⟩ := zC hg
     refine S s<|nsw 174 j4<|nsw 175 k4<|mw q<|yw q (y_extract · q q)<|yw q (y_extract · q q)<|aw q<|aw q<|nw<|sw<|lw<|mw q<|mw q fun a s => ?_
     obtain ⟨D1, e4, x3⟩ := SlR.src (s.ft 174 q)
     replace s := s.add 178 (rdF Rep.str D1 (l0.1)) x3
     refine l_seq q (l_append (sz := 1) (by_ := 16) (N := (e0 ++ l0.1).length) s 700144 q q q u25 q q q q q e4 (by rw [List.length_append]; try rfl) q (rmA T1 q) (rmB T1) q fun e2 j2 a w hA hK s => ?_)
     replace s := s.add 179 (rdF Rep.str (k0 ++ D1) (e0 ++ l0.1)) (RdAll.append (s.ft 145 q) (s.ft 178 q))
     refine S s<|aw q<|nw<|vw<|aw q<|nw<|bw<|alw 181 179 q fun a s => ?_
     replace s := s.pk [(2705, 2705), (700180, 700144)] (by decide)
     refine c_loop (σ := Nat) (fun m5 a w => ∃ (h0 : (List (List UInt8))) (p0 : Nat) (A126 : OA) (a1 : Nat) (v0 : List Value), r22_used_L4 n d2 l0 m5 h0 p0 = some r ∧ St (cx f46 M w0) [(3, sl A126 h0 a1), (6, sl c0 a0 d0), (7, vI (((b0 : Nat) : Int))), (8, vI m0), (11, sl K1 l0.2 S1), (12, vI (((p0 : Nat) : Int)))] [(700180, Ob.row (A126) ((h0).length) (a1) 9 1 (v0))] [(139, sF RDef c0 d0 a0), (175, sF Rep.str K1 S1 l0.2), (181, rdF Rep.str (v0) (h0))] a w) (fun m5 => m5) n ⟨(e0 ++ l0.1), (0), (e2), (j2), (k0 ++ D1), hg, (s.sb q q q)⟩ ?_
     clear s a; rintro m5 a w ⟨h0, p0, A126, a1, v0, hg, s⟩
     rcases m5 with _ | m5
     ·rw [r22_used_L4] at hg; cases hg
     rw [r22_used_L4] at hg
     refine S s<|sw<|vw<|mw q<|mw q<|yw q (lS · q u25)<|yw q (y_lssN (i := p0) (j := ((l0.2).length)) · q q)<|nw fun a s => c_dec s q (fun x1 => ?_) (fun x1 => ?_)
     ·replace hg := br_t hg x1
      have g5 := SlR.mx (s.ft 175 q)
      obtain ⟨r0, Y1, hg⟩ := zB hg
      obtain ⟨T2, hg⟩ := zC hg
      obtain ⟨U1, hg⟩ := zC hg
      refine S s<|kw<|pw<|sw<|bw<|lw<|mw q<|mw q<|mw q fun a s => ?_
      obtain ⟨D5, L2, d3, p3, X4, C2, s2⟩ := SlR.elemX (s.ft 175 q) Y1
      refine qq s q (eL 1 p0 s u25 L2 (lt_of_get Y1) q) fun a s => ?_
      obtain ⟨rfl, q5⟩ := C2
      refine S s<|yw q (lP · d3 p3 (s2 0 _ q) u9 q)<|yw q (y_concat · q q T2) fun a s => ?_
      refine l_seq q (l_buildDense (sz := 1) s 3506 q q q u25 q q q q q q q fun E4 a w o2 hK s => ?_)
      clear o2
      replace s := s.add 184 (rdF Rep.str (cellsOfL [vT ([64] ++ r0)]) ([[64] ++ r0])) (RdAll.cons (by exact ⟨q, (by rw [List.length_append]; omega)⟩) (rN))
      have g4 := row_src (s.wd.holds 3506 _ q) (RdAll.one (s.ft 184 q))
      refine l_seq q (l_append (sz := 1) (by_ := 16) (N := (h0 ++ [[64] ++ r0]).length) s 700180 q q q u25 q q q q q g4 (by simp only [List.length_append]; try rfl) q (rmA U1 q) (rmB U1) q fun g2 k2 a w hA hK s => ?_)
      replace s := s.add 185 (rdF Rep.str (v0 ++ (cellsOfL [vT ([64] ++ r0)])) (h0 ++ [[64] ++ r0])) (RdAll.append (s.ft 181 q) (s.ft 184 q))
      refine asg s q q fun a s => ?_
      apply wO
      refine p_inN ?_
      refine S s<|pw<|lw<|mw q<|yw q (y_addN (i := p0) (j := 1) · q q (in64.2 (by omega)))<|aw q<|nw<|alw 181 185 q fun a s => ?_
      exact ⟨m5, Nat.lt_succ_self _, ⟨(h0 ++ [[64] ++ r0]), (p0 + 1), (g2), (k2), (v0 ++ (cellsOfL [vT ([64] ++ r0)])), hg, (s.sb q q q)⟩⟩
     replace hg := br_f hg x1
     apply wp_exit
     refine p_then ?_
     refine p_then ?_
     refine p_in ?_
     refine p_inN ?_
     apply pN
     replace s := s.al 153 181 q
     replace s := s.pk [(700152, 700180)] (by decide)
     exact ⟨(h0), (A126), (a1), (v0), hg, (s.sb q q q)⟩
    clear s a; rintro a w ⟨F0, A87, e1, u1, hg, s⟩
    subst Z2
    obtain ⟨U2, hg⟩ := zC hg
    refine S s<|lw<|mw q<|yw q (y_add · q q (in64.2 U2))<|aw q<|nw<|alw 145 153 q fun a s => ?_
    replace s := s.pk [(700144, 700152)] (by decide)
    exact ⟨m4, Nat.lt_succ_self _, ⟨(F0), (m0 + 1), (A87), (e1), (u1), hg, (s.sb q q q)⟩⟩
   replace hg := br_f hg B1
   apply wp_exit
   refine p_then ?_
   refine p_then ?_
   refine p_in ?_
   refine p_inN ?_
   apply pN
   replace s := s.al 143 145 q
   replace s := s.pk [(700142, 700144)] (by decide)
   exact ⟨(e0), (A75), (t0), (k0), hg, (s.sb q q q)⟩
  clear s a; rintro a w ⟨E0, A71, d1, t1, hg, s⟩
  subst Y2
  refine S s<|lw<|mw q<|yw q (y_addN (i := b0) (j := 1) · q q (in64.2 (by omega)))<|aw q<|nw<|alw 141 143 q fun a s => ?_
  replace s := s.pk [(700140, 700142)] (by decide)
  exact ⟨m3, Nat.lt_succ_self _, ⟨(E0), (b0 + 1), (A71), (d1), (t1), hg, (s.sb q q q)⟩⟩
 replace hg := br_f hg z1
 apply wp_exit
 refine p_then ?_
 refine p_then ?_
 refine p_in ?_
 refine S s<|pw<|vw<|mw q<|aw q<|nw fun a s => ?_
 apply wp_ret
 obtain rfl := si hg
 refine fin1 (fn := Tryz.f46) s q (r_tmp s q) ?_
 exact ⟨(A63), (K0), q, (s.rowOut (R := Rep.str) (kk := 700140) q q (s.ft 141 q))⟩
theorem c_r21_sameTypes (n : Nat) (M : Bs) (w0 : World) (hM : bM M w0) (t_ : (List TypeDecl)) (e0 : OA) (h0 : Nat) (h2 : sR RTypeDecl M w0 e0 h0 t_) (t_' : (List TypeDecl)) (g0 : OA) (i0 : Nat) (i2 : sR RTypeDecl M w0 g0 i0 t_') (r : Bool) (hg : r21_sameTypes n t_ t_' = some r) :
    CA Tryz.prog 48 [sl e0 t_ h0, sl g0 t_' i0] w0 (fun v w => v = .bool (r)) := by
 unfold r21_sameTypes at hg
 refine enter M noB func48 q q hM ?_
 intro a s
 let F : Al Fact := [(101, sF RTypeDecl e0 h0 t_), (102, sF RTypeDecl g0 i0 (t_'))]
 refine S s<|esw 101 h2<|esw 102 i2<|vw<|aw q<|nw<|sw<|vw<|mw q<|yw q (lS · q u32)<|mw q<|yw q (lS · q u32)<|yw q (y_neqN (i := ((t_).length)) (j := ((t_').length)) · q q)<|nw fun a s => c_dec s q (fun o0 => ?_) (fun o0 => ?_)
 ·replace hg := br_t hg o0
  refine S s<|vw<|aw q<|nw fun a s => ?_
  apply wp_ret
  refine p_thenR ?_
  obtain rfl := si hg
  exact fT f48 s q q q
 replace hg := br_f hg o0
 refine S s<|kw<|pw<|sw<|vw<|aw q<|nw<|bw fun a s => ?_
 refine c_loop (σ := Nat) (fun m1 a w => ∃ (a0 : Nat), r21_sameTypes_L0 n t_ t_' m1 a0 = some r ∧ St (cx f48 M w0) [(0, sl e0 t_ h0), (1, sl g0 (t_') i0), (5, vI (((a0 : Nat) : Int)))] [] F a w) (fun m1 => m1) n ⟨(0), hg, (s.sb q q q)⟩ ?_
 clear s a; rintro m1 a w ⟨a0, hg, s⟩
 rcases m1 with _ | m1
 ·rw [r21_sameTypes_L0] at hg; cases hg
 rw [r21_sameTypes_L0] at hg
 refine S s<|sw<|vw<|mw q<|mw q<|yw q (lS · q u32)<|yw q (y_lssN (i := a0) (j := ((t_).length)) · q q)<|nw fun a s => c_dec s q (fun p0 => ?_) (fun p0 => ?_)
 ·replace hg := br_t hg p0
  have m4 := SlR.mx (s.ft 101 q)
  apply wp_skip
  apply pN
  apply wQ
  obtain ⟨k5, hg, C1⟩ := zJ hg
  refine c_post (fun a w => k5 = some r ∧ St (cx f48 M w0) [(0, sl e0 t_ h0), (1, sl g0 (t_') i0), (5, vI (((a0 : Nat) : Int)))] [] F a w) ?_ ?_
  ·apply wp_block
   apply wQ
   apply wQ
   obtain ⟨k6, hg, D1⟩ := zJ hg
   refine c_post (fun a w => ∃ (v0 : Bool), k6 v0 = some r ∧ St (cx f48 M w0) [(0, sl e0 t_ h0), (1, sl g0 (t_') i0), (5, vI (((a0 : Nat) : Int))), (57, .bool (v0))] [] F a w) ?_ ?_
   ·obtain ⟨x9, c0, hg⟩ := zB hg
    obtain ⟨l0, b0, hg⟩ := zB hg
    rcases Decidable.em ((x9.Name : List UInt8) ≠ l0.Name) with j0 | j0
    ·have m0 := decide_eq_true j0
     replace hg := br_t hg j0
     refine d_plan s [] [(0, some 0), (1, some 0), (2, some 0), (3, some 0), (4, some 0), (5, some 0), (6, some 0), (7, some 0), (8, some 0), (9, some 0), (10, some 0), (11, some 0), (12, some 0), (13, some 0), (14, some 0), (15, some 0), (16, some 0), (17, some 0), (18, some 0), (19, some 0), (20, some 0), (21, some 0), (22, some 0), (23, some 0), (24, some 0), (25, some 0), (26, some 0), (27, some 0), (28, some 0), (29, some 0), (30, some 0), (31, some 0), (32, some 0), (33, some 0), (34, some 0), (35, some 0), (36, some 0), (37, some 0), (38, some 0), (39, some 0)] q (by kernel_rfl) (by kernel_rfl) q ?_; clear s; intro wr hZ s; have hR := s.wd
     refine S s<|qw hR q (mo · q)<|qw hR q (mo · q) fun a s => ?_
     obtain ⟨Q4, u1, E1, S1, V3, d1, P0⟩ := SlR.elemX (s.ft 101 q) c0
     refine S s<|qw hR q (eL 3 a0 · u32 u1 (lt_of_get c0) q)<|qw hR q (pF 0 · u49 q) fun a s => ?_
     obtain ⟨Q2, s3, R2, t3, rfl, x4, j2, k2⟩ := RTypeDecl.open d1
     refine S s<|nsw 107 j2<|nsw 108 k2<|qw hR q (lP · E1 S1 (P0 0 _ q) u9 q)<|qw hR q (mo · q)<|qw hR q (mo · q) fun a s => ?_
     obtain ⟨R4, v1, F1, T1, X3, e1, Q0⟩ := SlR.elemX (s.ft 102 q) b0
     refine S s<|qw hR q (eL 3 a0 · u32 v1 (lt_of_get b0) q)<|qw hR q (pF 0 · u49 q) fun a s => ?_
     obtain ⟨S2, v3, T2, w3, rfl, y4, l2, n2⟩ := RTypeDecl.open e1
     refine S s<|nsw 109 l2<|nsw 110 n2<|qw hR q (lP · F1 T1 (Q0 0 _ q) u9 q)<|qw hR q (fun s => yl_b (y_sne s q q) m0)<|qw hR q (mo · q)<|qpw hR q<|qpw hR q<|qpw hR q<|qpw hR q<|qpw hR q<|qpw hR q<|qpw hR q<|qpw hR q<|qpw hR q<|qpw hR q<|qpw hR q<|qpw hR q<|qw hR q (pT · q q)<|qw hR q (mo · q)<|qpw hR q<|qpw hR q<|qpw hR q<|qpw hR q<|qpw hR q<|qpw hR q<|qpw hR q<|qpw hR q<|qpw hR q<|qpw hR q<|qpw hR q<|qpw hR q<|qpw hR q<|qw hR q (pT · q q) fun a s => ?_
     clear hR hZ
     apply pN
     exact ⟨(true), hg, (s.sb q q q)⟩
    have m0 := decide_eq_false j0
    replace hg := br_f hg j0
    obtain ⟨L2, K0, hg⟩ := zB hg
    rcases Bool.eq_false_or_eq_true (!(L2)) with k0 | k0
    ·replace hg := br_t hg k0
     refine d_steps s [] q ?_; clear s; intro wr hZ s; have hR := s.wd; have hE := fun g => Ext.init hR g
     refine S s<|nqw 0 0 hR q (mo · q)<|nqw 1 0 hR q (mo · q) fun a s => ?_
     obtain ⟨S4, z0, o4⟩ := SlR.elemX (s.ft 101 q) c0
     refine S s<|nqw 2 0 hR q (eL 3 a0 · u32 z0 (lt_of_get c0) q)<|nqw 3 0 hR q (pF 0 · u49 q) fun a s => ?_
     obtain ⟨G1, U1, Y3, g1, R0⟩ := (SlR.again (s.ft 101 q) c0 z0)
     obtain ⟨U2, x3, V2, y3, rfl, z4, o2, p2⟩ := RTypeDecl.open g1
     refine S s<|nsw 115 o2<|nsw 116 p2<|nqw 4 0 hR q (lP · G1 U1 (R0 0 _ q) u9 q)<|nqw 5 0 hR q (mo · q)<|nqw 6 0 hR q (mo · q) fun a s => ?_
     obtain ⟨T4, B0, p4⟩ := SlR.elemX (s.ft 102 q) b0
     refine S s<|nqw 7 0 hR q (eL 3 a0 · u32 B0 (lt_of_get b0) q)<|nqw 8 0 hR q (pF 0 · u49 q) fun a s => ?_
     obtain ⟨H1, V1, Z3, h1, S0⟩ := (SlR.again (s.ft 102 q) b0 B0)
     obtain ⟨X2, z3, Y2, B3, rfl, B4, q2, r2⟩ := RTypeDecl.open h1
     refine S s<|nsw 117 q2<|nsw 118 r2<|nqw 9 0 hR q (lP · H1 V1 (S0 0 _ q) u9 q)<|nqw 10 0 hR q (fun s => yl_b (y_sne s q q) m0)<|nqw 11 0 hR q (mo · q)<|nqw 12 0 hR q (mo · q)<|nqw 13 0 hR q (mo · q) fun a s => ?_
     obtain ⟨U4, C0, q4⟩ := SlR.elemX (s.ft 101 q) c0
     refine S s<|nqw 14 0 hR q (eL 3 a0 · u32 C0 (lt_of_get c0) q)<|nqw 15 0 hR q (pF 1 · u49 q) fun a s => ?_
     obtain ⟨I1, X1, a4, i1, T0⟩ := (SlR.again (s.ft 101 q) c0 C0)
     obtain ⟨Z2, C3, a3, D3, rfl, C4, s2, t2⟩ := RTypeDecl.open i1
     refine S s<|nsw 119 s2<|nsw 120 t2<|nqw 16 0 hR q (lP · I1 X1 (T0 1 _ q) u25 q)<|nqw 17 0 hR q (mo · q)<|nqw 18 0 hR q (mo · q) fun a s => ?_
     obtain ⟨V4, D0, r4⟩ := SlR.elemX (s.ft 102 q) b0
     refine S s<|nqw 19 0 hR q (eL 3 a0 · u32 D0 (lt_of_get b0) q)<|nqw 20 0 hR q (pF 1 · u49 q) fun a s => ?_
     obtain ⟨J1, Y1, b4, j1, U0⟩ := (SlR.again (s.ft 102 q) b0 D0)
     obtain ⟨b3, E3, c3, F3, rfl, D4, u2, v2⟩ := RTypeDecl.open j1
     refine S s<|nsw 121 u2<|nsw 122 v2<|nqw 21 0 hR q (lP · J1 Y1 (U0 1 _ q) u25 q) fun a s => ?_
     refine nC 22 s q q func14 (c_r01_Same n _ _ s.lt _ _ _ (s.ft 119 q) _ _ _ (s.ft 121 q) _ K0) fun h5 a w hK hp s => ?_
     refine gA hE hZ hK fun hE hZ => ?_; clear hK
     obtain rfl := hp
     refine S s<|nzw 23 q (fun s => yl_b (y_not s q) k0)<|nzw 24 q (pO · q q)<|nzw 25 q (mo · q)<|nfw 26 (hE 0) q<|nfw 27 (hE 0) q<|nfw 28 (hE 0) q<|nfw 29 (hE 0) q<|nfw 30 (hE 0) q<|nfw 31 (hE 0) q<|nfw 32 (hE 0) q<|npw 33 q<|npw 34 q<|npw 35 q<|npw 36 q<|npw 37 q<|npw 38 q<|nzw 39 q (pT · q q) fun a s => ?_
     refine n_end (by kernel_rfl) ?_; clear hR hZ hE
     apply pN
     exact ⟨(true), hg, (s.sb q q q)⟩
    replace hg := br_n hg k0
    refine d_steps s [] q ?_; clear s; intro wr hZ s; have hR := s.wd; have hE := fun g => Ext.init hR g
    refine S s<|nqw 0 0 hR q (mo · q)<|nqw 1 0 hR q (mo · q) fun a s => ?_
    obtain ⟨X4, E0, s4⟩ := SlR.elemX (s.ft 101 q) c0
    refine S s<|nqw 2 0 hR q (eL 3 a0 · u32 E0 (lt_of_get c0) q)<|nqw 3 0 hR q (pF 0 · u49 q) fun a s => ?_
    obtain ⟨K1, Z1, c4, k1, V0⟩ := (SlR.again (s.ft 101 q) c0 E0)
    obtain ⟨d3, G3, e3, H3, rfl, E4, w2, x2⟩ := RTypeDecl.open k1
    refine S s<|nsw 127 w2<|nsw 128 x2<|nqw 4 0 hR q (lP · K1 Z1 (V0 0 _ q) u9 q)<|nqw 5 0 hR q (mo · q)<|nqw 6 0 hR q (mo · q) fun a s => ?_
    obtain ⟨Y4, F0, t4⟩ := SlR.elemX (s.ft 102 q) b0
    refine S s<|nqw 7 0 hR q (eL 3 a0 · u32 F0 (lt_of_get b0) q)<|nqw 8 0 hR q (pF 0 · u49 q) fun a s => ?_
    obtain ⟨L1, a2, d4, l1, X0⟩ := (SlR.again (s.ft 102 q) b0 F0)
    obtain ⟨g3, I3, h3, J3, rfl, F4, y2, z2⟩ := RTypeDecl.open l1
    refine S s<|nsw 129 y2<|nsw 130 z2<|nqw 9 0 hR q (lP · L1 a2 (X0 0 _ q) u9 q)<|nqw 10 0 hR q (fun s => yl_b (y_sne s q q) m0)<|nqw 11 0 hR q (mo · q)<|nqw 12 0 hR q (mo · q)<|nqw 13 0 hR q (mo · q) fun a s => ?_
    obtain ⟨Z4, t0, v4⟩ := SlR.elemX (s.ft 101 q) c0
    refine S s<|nqw 14 0 hR q (eL 3 a0 · u32 t0 (lt_of_get c0) q)<|nqw 15 0 hR q (pF 1 · u49 q) fun a s => ?_
    obtain ⟨G0, I0, e4, n1, x0⟩ := (SlR.again (s.ft 101 q) c0 t0)
    obtain ⟨i3, K3, j3, L3, rfl, G4, B2, C2⟩ := RTypeDecl.open n1
    refine S s<|nsw 131 B2<|nsw 132 C2<|nqw 16 0 hR q (lP · G0 I0 (x0 1 _ q) u25 q)<|nqw 17 0 hR q (mo · q)<|nqw 18 0 hR q (mo · q) fun a s => ?_
    obtain ⟨a5, u0, w4⟩ := SlR.elemX (s.ft 102 q) b0
    refine S s<|nqw 19 0 hR q (eL 3 a0 · u32 u0 (lt_of_get b0) q)<|nqw 20 0 hR q (pF 1 · u49 q) fun a s => ?_
    obtain ⟨H0, J0, g4, o1, y0⟩ := (SlR.again (s.ft 102 q) b0 u0)
    obtain ⟨k3, M3, l3, O3, rfl, H4, D2, E2⟩ := RTypeDecl.open o1
    refine S s<|nsw 133 D2<|nsw 134 E2<|nqw 21 0 hR q (lP · H0 J0 (y0 1 _ q) u25 q) fun a s => ?_
    refine nC 22 s q q func14 (c_r01_Same n _ _ s.lt _ _ _ (s.ft 131 q) _ _ _ (s.ft 133 q) _ K0) fun i5 a w hK hp s => ?_
    refine gA hE hZ hK fun hE hZ => ?_; clear hK
    obtain rfl := hp
    refine S s<|nzw 23 q (fun s => yl_b (y_not s q) k0)<|nzw 24 q (pO · q q)<|nzw 25 q (mo · q)<|new 26 (hE 0) q (fun w' s => y_move s q)<|new 27 (hE 0) q (fun w' s => y_move s q)<|new 28 (hE 0) q (fun w' s => y_elem (sz := 3) (i := a0) s q q u32 q t0 q (lt_of_get c0))<|new 29 (hE 0) q (fun w' s => y_ptrField (o' := 2) s q u49 q q q)<|nmw 30 0 hR hE q (lP · G0 I0 (x0 2 _ q) u47 q)<|new 32 (hE 0) q (fun w' s => y_move s q)<|new 33 (hE 0) q (fun w' s => y_move s q)<|new 34 (hE 0) q (fun w' s => y_elem (sz := 3) (i := a0) s q q u32 q u0 q (lt_of_get b0))<|new 35 (hE 0) q (fun w' s => y_ptrField (o' := 2) s q u49 q q q)<|nmw 36 0 hR hE q (lP · H0 J0 (y0 2 _ q) u47 q) fun a s => ?_
    refine n_2 31 37 s (by kernel_rfl) q (rR q) q (rR q) ?_ ?_
    ·refine l_quiet s q q (lS s q u47) fun a s => ?_; refine ⟨fun g _ h => h, ?_⟩
     refine S s<|nzw 37 q (lS · q u47)<|nzw 38 q (y_neqN (i := ((x9.Feats).length)) (j := ((l0.Feats).length)) · q q)<|nzw 39 q (pO · q q) fun a s => ?_
     refine n_end (by kernel_rfl) ?_; clear hR hZ hE
     apply pN
     exact ⟨(decide (((x9.Feats).length) ≠ ((l0.Feats).length))), hg, (s.sb q q q)⟩
    ·refine l_quiet s q q (lS s q u47) fun a s => ?_; refine ⟨fun g _ h => h, ?_⟩
     refine S s<|nzw 31 q (lS · q u47)<|nzw 38 q (y_neqN (i := ((x9.Feats).length)) (j := ((l0.Feats).length)) · q q)<|nzw 39 q (pO · q q) fun a s => ?_
     refine n_end (by kernel_rfl) ?_; clear hR hZ hE
     apply pN
     exact ⟨(decide (((x9.Feats).length) ≠ ((l0.Feats).length))), hg, (s.sb q q q)⟩
   clear s a; rintro a w ⟨v0, hg, s⟩
   subst D1
   refine c_cond s q (fun q0 => ?_) (fun q0 => ?_)
   ·replace hg := br_t hg q0
    refine S s<|vw<|aw q<|nw fun a s => ?_
    apply wp_ret
    refine p_thenR ?_
    refine p_inR ?_
    refine p_thenR ?_
    refine p_thenR ?_
    refine p_inR ?_
    refine p_thenR ?_
    obtain rfl := si hg
    exact fT f48 s q q q
   replace hg := br_n hg q0
   refine S s<|kw<|pw<|vw<|aw q<|nw<|bw fun a s => ?_
   refine c_loop (σ := Nat) (fun m2 a w => ∃ (d0 : Nat), r21_sameTypes_L1 n t_ t_' a0 k5 m2 d0 = some r ∧ St (cx f48 M w0) [(0, sl e0 t_ h0), (1, sl g0 (t_') i0), (5, vI (((a0 : Nat) : Int))), (6, vI (((d0 : Nat) : Int)))] [] F a w) (fun m2 => m2) n ⟨(0), hg, (s.sb q q q)⟩ ?_
   clear s a; rintro m2 a w ⟨d0, hg, s⟩
   rcases m2 with _ | m2
   ·rw [r21_sameTypes_L1] at hg; cases hg
   rw [r21_sameTypes_L1] at hg
   obtain ⟨M2, n0, hg⟩ := zB hg
   refine S s<|sw<|sw<|lw<|mw q<|mw q<|mw q fun a s => ?_
   obtain ⟨b5, w1, M1, b2, h4, p1, Y0⟩ := SlR.elemX (s.ft 101 q) n0
   refine S s<|yw q (eL 3 a0 · u32 w1 (lt_of_get n0) q)<|yw q (pF 2 · u49 q) fun a s => ?_
   obtain ⟨m3, P3, n3, Q3, rfl, I4, F2, G2⟩ := RTypeDecl.open p1
   refine S s<|nsw 137 F2<|nsw 138 G2<|yw q (lP · M1 b2 (Y0 2 _ q) u47 q)<|yw q (lS · q u47)<|yw q (y_lssN (i := d0) (j := ((M2.Feats).length)) · q q)<|nw fun a s => c_dec s q (fun r0 => ?_) (fun r0 => ?_)
   ·replace hg := br_t hg r0
    have n4 := SlR.mx (s.ft 138 q)
    obtain ⟨O2, L0, hg⟩ := zB hg
    obtain ⟨j5, M0, hg⟩ := zB hg
    obtain ⟨P2, O0, hg⟩ := zB hg
    refine S s<|kw<|pw<|sw<|bw<|sw fun a s => ?_
    refine d_plan s [] [(0, some 0), (1, some 0), (2, some 0), (3, some 0), (4, some 0), (5, some 0), (6, some 0), (7, some 0), (8, some 0), (9, some 0), (10, some 0), (11, some 0), (12, some 0), (13, some 0), (14, some 0), (15, some 0), (16, some 0)] q (by kernel_rfl) (by kernel_rfl) q ?_; clear s; intro wr hZ s; have hR := s.wd
    refine S s<|qw hR q (mo · q)<|qw hR q (mo · q) fun a s => ?_
    obtain ⟨c5, x1, O1, c2, i4, q1, Z0⟩ := SlR.elemX (s.ft 101 q) n0
    refine S s<|qw hR q (eL 3 a0 · u32 x1 (lt_of_get n0) q)<|qw hR q (pF 2 · u49 q) fun a s => ?_
    obtain ⟨o3, R3, p3, S3, rfl, J4, H2, I2⟩ := RTypeDecl.open q1
    refine S s<|nsw 143 H2<|nsw 144 I2<|qw hR q (lP · O1 c2 (Z0 2 _ q) u47 q)<|qw hR q (mo · q) fun a s => ?_
    obtain ⟨d5, y1, P1, d2, j4, r1, a1⟩ := SlR.elemX (s.ft 144 q) L0
    refine qt s hR q (eL 2 d0 s u47 y1 (lt_of_get L0) q) fun a s => ?_
    obtain ⟨rfl, K4, L4⟩ := RFeatDecl.open r1
    refine S s<|qw hR q (y_ldp · q P1 d2 (by simpa using a1) u82 q q)<|qw hR q (mo · q)<|qw hR q (mo · q) fun a s => ?_
    obtain ⟨e5, z1, Q1, e2, k4, s1, b1⟩ := SlR.elemX (s.ft 102 q) M0
    refine S s<|qw hR q (eL 3 a0 · u32 z1 (lt_of_get M0) q)<|qw hR q (pF 2 · u49 q) fun a s => ?_
    obtain ⟨q3, T3, r3, U3, rfl, M4, J2, K2⟩ := RTypeDecl.open s1
    refine S s<|nsw 145 J2<|nsw 146 K2<|qw hR q (lP · Q1 e2 (b1 2 _ q) u47 q)<|qw hR q (mo · q) fun a s => ?_
    obtain ⟨g5, B1, R1, g2, l4, t1, c1⟩ := SlR.elemX (s.ft 146 q) O0
    refine qt s hR q (eL 2 d0 s u47 B1 (lt_of_get O0) q) fun a s => ?_
    obtain ⟨rfl, O4, P4⟩ := RFeatDecl.open t1
    refine S s<|qw hR q (y_ldp · q R1 g2 (by simpa using c1) u82 q q)<|qw hR q (y_neqS · q q (by kernel_rfl) (fun w' => eqFeatDecl O2 P2 w')) fun a s => ?_
    clear hR hZ
    apply pN
    refine c_not s q (fun s0 => ?_) (fun s0 => ?_)
    ·replace hg := br_f hg s0
     refine S s<|vw<|aw q<|nw fun a s => ?_
     apply wp_ret
     refine p_inR ?_
     refine p_thenR ?_
     refine p_thenR ?_
     refine p_inR ?_
     refine p_inR ?_
     refine p_thenR ?_
     refine p_thenR ?_
     refine p_inR ?_
     refine p_thenR ?_
     obtain rfl := si hg
     exact fT f48 s q q q
    replace hg := br_t hg s0
    apply wp_skip
    refine p_inN ?_
    refine S s<|pw<|lw<|mw q<|yw q (y_addN (i := d0) (j := 1) · q q (in64.2 (by omega)))<|aw q<|nw fun a s => ?_
    exact ⟨m2, Nat.lt_succ_self _, ⟨(d0 + 1), hg, (s.sb q q q)⟩⟩
   replace hg := br_f hg r0
   apply wp_exit
   refine p_then ?_
   refine p_then ?_
   refine p_in ?_
   refine p_inN ?_
   apply pN
   exact ⟨hg, (s.sb q q q)⟩
  clear s a; rintro a w ⟨hg, s⟩
  subst C1
  refine S s<|lw<|mw q<|yw q (y_addN (i := a0) (j := 1) · q q (in64.2 (by omega)))<|aw q<|nw fun a s => ?_
  exact ⟨m1, Nat.lt_succ_self _, ⟨(a0 + 1), hg, (s.sb q q q)⟩⟩
 replace hg := br_f hg p0
 apply wp_exit
 refine p_then ?_
 refine p_then ?_
 refine p_in ?_
 refine S s<|pw<|vw<|aw q<|nw fun a s => ?_
 apply wp_ret
 obtain rfl := si hg
 exact fT f48 s q q q
theorem c_r19_SameDescs (n : Nat) (via_ : Desc → Desc → Option Bool) (c_via : ∀ (M : Bs) (w0 : World) (hM : bM M w0) (a_ : Desc) (j0 : OA) (n0 : Nat) (k0 : OA) (o0 : Nat) (d1 : (a_.Name).length ≤ 9223372036854775807) (Z0 : sR Rep.str M w0 j0 n0 a_.Path) (a1 : sR RDesc M w0 k0 o0 a_.Kids) (b_ : Desc) (l0 : OA) (p0 : Nat) (m0 : OA) (q0 : Nat) (e1 : (b_.Name).length ≤ 9223372036854775807) (b1 : sR Rep.str M w0 l0 p0 b_.Path) (c1 : sR RDesc M w0 m0 q0 b_.Kids) (r : Bool) (hg : via_ a_ b_ = some r), Calls Tryz.prog 70 [.agg #[.int .i64 (a_.Op), .string (bs (a_.Name)), .slice (j0) ((a_.Path).length) (n0), .slice (k0) ((a_.Kids).length) (o0)], .agg #[.int .i64 (b_.Op), .string (bs (b_.Name)), .slice (l0) ((b_.Path).length) (p0), .slice (m0) ((b_.Kids).length) (q0)]].toArray w0 (Ret noB w0 fun v w => v = .bool (r))) (M : Bs) (w0 : World) (hM : bM M w0) (a_ : (List Desc)) (b0 : OA) (d0 : Nat) (F0 : sR RDesc M w0 b0 d0 a_) (b_ : (List Desc)) (c0 : OA) (e0 : Nat) (G0 : sR RDesc M w0 c0 e0 b_) (r : Bool) (hg : r19_SameDescs n via_ a_ b_ = some r) :
    CA Tryz.prog 71 [sl b0 a_ d0, sl c0 b_ e0] w0 (fun v w => v = .bool (r)) := by
 unfold r19_SameDescs at hg
 refine enter M noB func71 q q hM ?_
 intro a s
 refine S s<|esw 101 F0<|esw 102 G0<|vw<|aw q<|nw<|sw<|vw<|mw q<|yw q (lS · q u58)<|mw q<|yw q (lS · q u58)<|yw q (y_neqN (i := ((a_).length)) (j := ((b_).length)) · q q)<|nw fun a s => c_dec s q (fun g0 => ?_) (fun g0 => ?_)
 ·replace hg := br_t hg g0
  refine S s<|vw<|aw q<|nw fun a s => ?_
  apply wp_ret
  refine p_thenR ?_
  obtain rfl := si hg
  exact fT f71 s q q q
 replace hg := br_f hg g0
 refine S s<|kw<|pw<|sw<|vw<|aw q<|nw<|bw fun a s => ?_
 refine c_loop (σ := Nat) (fun m1 a w => ∃ (a0 : Nat), r19_SameDescs_L0 n a_ b_ via_ m1 a0 = some r ∧ St (cx f71 M w0) [(0, sl b0 a_ d0), (1, sl c0 b_ e0), (5, vI (((a0 : Nat) : Int)))] [] [(101, sF RDesc b0 d0 a_), (102, sF RDesc c0 e0 b_)] a w) (fun m1 => m1) n ⟨(0), hg, (s.sb q q q)⟩ ?_
 clear s a; rintro m1 a w ⟨a0, hg, s⟩
 rcases m1 with _ | m1
 ·rw [r19_SameDescs_L0] at hg; cases hg
 rw [r19_SameDescs_L0] at hg
 refine S s<|sw<|vw<|mw q<|mw q<|yw q (lS · q u58)<|yw q (y_lssN (i := a0) (j := ((a_).length)) · q q)<|nw fun a s => c_dec s q (fun i0 => ?_) (fun i0 => ?_)
 ·replace hg := br_t hg i0
  have Y0 := SlR.mx (s.ft 101 q)
  obtain ⟨x6, r0, hg⟩ := zB hg
  obtain ⟨x9, s0, hg⟩ := zB hg
  obtain ⟨k1, L0, hg⟩ := zB hg
  refine S s<|kw<|pw<|sw<|bw<|sw fun a s => ?_
  refine d_plan s [] [(0, some 0), (1, some 0), (2, some 0), (3, some 0), (4, some 0), (5, some 0), (6, some 0), (7, some 0), (8, none), (9, none)] q (by kernel_rfl) (by kernel_rfl) q ?_; clear s; intro wr hZ s; have hR := s.wd
  refine S s<|qw hR q (mo · q)<|qw hR q (mo · q) fun a s => ?_
  obtain ⟨i1, y0, B0, D0, V0, v0, t0⟩ := SlR.elemX (s.ft 101 q) r0
  refine qt s hR q (eL 4 a0 s u58 y0 (lt_of_get r0) q) fun a s => ?_
  obtain ⟨M0, R0, O0, S0, rfl, g1, H0, I0⟩ := RDesc.open v0
  refine S s<|nsw 107 H0<|nsw 108 I0<|qw hR q (y_ldp · q B0 D0 (by simpa using t0) u60 q q)<|qw hR q (mo · q)<|qw hR q (mo · q) fun a s => ?_
  obtain ⟨j1, z0, C0, E0, X0, x0, u0⟩ := SlR.elemX (s.ft 102 q) s0
  refine qt s hR q (eL 4 a0 s u58 z0 (lt_of_get s0) q) fun a s => ?_
  obtain ⟨P0, T0, Q0, U0, rfl, h1, J0, K0⟩ := RDesc.open x0
  refine S s<|nsw 109 J0<|nsw 110 K0<|qw hR q (y_ldp · q C0 E0 (by simpa using u0) u60 q q) fun a s => ?_
  refine l_take s q q (l_call (cap := []) s q func70 q (by kernel_rfl) q q (c_via _ _ s.lt _ _ _ _ _ (by omega) (s.ft 107 q) (s.ft 108 q) _ _ _ _ _ (by omega) (s.ft 109 q) (s.ft 110 q) _ L0) fun l1 a w hK hp s => ?_)
  refine gz hZ hK fun hZ => ?_; clear hK
  obtain rfl := hp
  refine S s<|tw q (y_not · q) fun a s => ?_
  clear hR hZ
  apply pN
  refine c_cond s q (fun h0 => ?_) (fun h0 => ?_)
  ·replace hg := br_t hg h0
   refine S s<|vw<|aw q<|nw fun a s => ?_
   apply wp_ret
   refine p_inR ?_
   refine p_thenR ?_
   refine p_thenR ?_
   refine p_inR ?_
   refine p_thenR ?_
   obtain rfl := si hg
   exact fT f71 s q q q
  replace hg := br_n hg h0
  apply wp_skip
  refine p_inN ?_
  refine S s<|pw<|lw<|mw q<|yw q (y_addN (i := a0) (j := 1) · q q (in64.2 (by omega)))<|aw q<|nw fun a s => ?_
  exact ⟨m1, Nat.lt_succ_self _, ⟨(a0 + 1), hg, (s.sb q q q)⟩⟩
 replace hg := br_f hg i0
 apply wp_exit
 refine p_then ?_
 refine p_then ?_
 refine p_in ?_
 refine S s<|pw<|vw<|aw q<|nw fun a s => ?_
 apply wp_ret
 obtain rfl := si hg
 exact fT f71 s q q q
theorem c_r19_SameDesc (n : Nat) : ∀ (M : Bs) (w0 : World) (hM : bM M w0) (a_ : Desc) (e0 : OA) (j0 : Nat) (g0 : OA) (k0 : Nat) (u0 : (a_.Name).length ≤ 9223372036854775807) (o0 : sR Rep.str M w0 e0 j0 a_.Path) (p0 : sR RDesc M w0 g0 k0 a_.Kids) (b_ : Desc) (h0 : OA) (l0 : Nat) (i0 : OA) (m0 : Nat) (v0 : (b_.Name).length ≤ 9223372036854775807) (q0 : sR Rep.str M w0 h0 l0 b_.Path) (r0 : sR RDesc M w0 i0 m0 b_.Kids) (r : Bool) (hg : r19_SameDesc n a_ b_ = some r),
    CA Tryz.prog 70 [.agg #[.int .i64 (a_.Op), vT a_.Name, sl e0 a_.Path j0, sl g0 a_.Kids k0], .agg #[.int .i64 (b_.Op), vT b_.Name, sl h0 b_.Path l0, sl i0 b_.Kids m0]] w0 (fun v w => v = .bool (r)) := by
 induction n with
 | zero => intros; rename_i hg; rw [r19_SameDesc] at hg; cases hg
 | succ n c_self =>
 intro M w0 hM a_ e0 j0 g0 k0 u0 o0 p0 b_ h0 l0 i0 m0 v0 q0 r0 r hg
 rw [r19_SameDesc] at hg
 refine enter M noB func70 q q hM ?_
 intro a s
 refine S s<|esw 101 o0<|esw 102 p0<|esw 103 q0<|esw 104 r0<|vw fun a s => ?_
 refine l_seq q (l_box (zs := [vI a_.Op, vT a_.Name, sl e0 a_.Path j0, sl g0 a_.Kids k0]) s 1000 q q q q fun b3 a w hb hK s => ?_)
 refine l_seq q (l_box (zs := [vI b_.Op, vT b_.Name, sl h0 b_.Path l0, sl i0 b_.Kids m0]) s 1001 q q q q fun b4 a w hb hK s => ?_)
 refine S s<|aw q<|nw<|sw fun a s => ?_
 rcases Decidable.em (a_.Op = b_.Op) with b0 | b0
 ·have c0 := decide_eq_true b0
  replace hg := br_t hg b0
  rcases Decidable.em ((a_.Name : List UInt8) = b_.Name) with d0 | d0
  ·have n0 := decide_eq_true d0
   replace hg := br_t hg d0
   obtain ⟨r7, s0, hg⟩ := zB hg
   rcases Bool.eq_false_or_eq_true (r7) with a0 | a0
   ·replace hg := br_t hg a0
    obtain ⟨x0, t0, hg⟩ := zB hg
    refine S s<|lw<|yw q (bF 0 · u60 q)<|yw q (lB 1000 · u3 q)<|yw q (bF 0 · u60 q)<|yw q (lB 1001 · u3 q)<|yw q (fun s => yl_b (y_eql s q q) c0)<|mw q<|zw q (bF 1 · u60 q)<|zw q (lB 1000 · u9 q)<|zw q (bF 1 · u60 q)<|zw q (lB 1001 · u9 q)<|zw q (fun s => yl_b (y_seq s q q) n0)<|tw_ q<|mw q<|zw q (bF 2 · u60 q)<|zw q (lB 1000 · u25 q)<|zw q (bF 2 · u60 q)<|zw q (lB 1001 · u25 q) fun a s => ?_
    refine gC s q func14 (c_r01_Same n _ _ s.lt _ _ _ (s.ft 101 q) _ _ _ (s.ft 103 q) _ s0) fun y0 a w hK hp s => ?_
    obtain rfl := hp.trans (congrArg Value.bool a0)
    refine S s<|tw_ q<|mw q<|zw q (bF 3 · u60 q)<|zw q (lB 1000 · u58 q)<|zw q (bF 3 · u60 q)<|zw q (lB 1001 · u58 q) fun a s => ?_
    refine gV s q func71 (c_r19_SameDescs n (r19_SameDesc n) c_self _ _ s.lt _ _ _ (s.ft 102 q) _ _ _ (s.ft 104 q) _ t0) fun a w hK s => ?_
    refine S s<|tw_ q<|aw q<|nw fun a s => ?_
    apply wp_ret
    obtain rfl := si hg
    exact fT f70 s q q q
   replace hg := br_n hg a0
   refine S s<|lw<|yw q (bF 0 · u60 q)<|yw q (lB 1000 · u3 q)<|yw q (bF 0 · u60 q)<|yw q (lB 1001 · u3 q)<|yw q (fun s => yl_b (y_eql s q q) c0)<|mw q<|zw q (bF 1 · u60 q)<|zw q (lB 1000 · u9 q)<|zw q (bF 1 · u60 q)<|zw q (lB 1001 · u9 q)<|zw q (fun s => yl_b (y_seq s q q) n0)<|tw_ q<|mw q<|zw q (bF 2 · u60 q)<|zw q (lB 1000 · u25 q)<|zw q (bF 2 · u60 q)<|zw q (lB 1001 · u25 q) fun a s => ?_
   refine gC s q func14 (c_r01_Same n _ _ s.lt _ _ _ (s.ft 101 q) _ _ _ (s.ft 103 q) _ s0) fun z0 a w hK hp s => ?_
   obtain rfl := hp.trans (congrArg Value.bool a0)
   refine S s<|tw_ q<|mw q<|gw q<|gw q<|gw q<|gw q<|gw q<|fw q<|aw q<|nw fun a s => ?_
   apply wp_ret
   obtain rfl := si hg
   exact fT f70 s q q q
  have n0 := decide_eq_false d0
  replace hg := br_f hg d0
  refine S s<|lw<|yw q (bF 0 · u60 q)<|yw q (lB 1000 · u3 q)<|yw q (bF 0 · u60 q)<|yw q (lB 1001 · u3 q)<|yw q (fun s => yl_b (y_eql s q q) c0)<|mw q<|zw q (bF 1 · u60 q)<|zw q (lB 1000 · u9 q)<|zw q (bF 1 · u60 q)<|zw q (lB 1001 · u9 q)<|zw q (fun s => yl_b (y_seq s q q) n0)<|tw_ q<|mw q<|gw q<|gw q<|gw q<|gw q<|gw q<|fw q<|mw q<|gw q<|gw q<|gw q<|gw q<|gw q<|fw q<|aw q<|nw fun a s => ?_
  apply wp_ret
  obtain rfl := si hg
  exact fT f70 s q q q
 have c0 := decide_eq_false b0
 replace hg := br_f hg b0
 refine S s<|lw<|yw q (bF 0 · u60 q)<|yw q (lB 1000 · u3 q)<|yw q (bF 0 · u60 q)<|yw q (lB 1001 · u3 q)<|yw q (fun s => yl_b (y_eql s q q) c0)<|mw q<|gw q<|gw q<|gw q<|gw q<|gw q<|fw q<|mw q<|gw q<|gw q<|gw q<|gw q<|gw q<|fw q<|mw q<|gw q<|gw q<|gw q<|gw q<|gw q<|fw q<|aw q<|nw fun a s => ?_
 apply wp_ret
 obtain rfl := si hg
 exact fT f70 s q q q
theorem c_r21_sameDefs (n : Nat) (M : Bs) (w0 : World) (hM : bM M w0) (a_ : (List Def)) (d0 : OA) (g0 : Nat) (v1 : sR RDef M w0 d0 g0 a_) (b_ : (List Def)) (e0 : OA) (h0 : Nat) (w1 : sR RDef M w0 e0 h0 b_) (r : Bool) (hg : r21_sameDefs n a_ b_ = some r) :
    CA Tryz.prog 49 [sl d0 a_ g0, sl e0 b_ h0] w0 (fun v w => v = .bool (r)) := by
 unfold r21_sameDefs at hg
 refine enter M noB func49 q q hM ?_
 intro a s
 let F : Al Fact := [(101, sF RDef d0 g0 a_), (102, sF RDef e0 h0 b_)]
 refine S s<|esw 101 v1<|esw 102 w1<|vw<|aw q<|nw<|sw<|vw<|mw q<|yw q (lS · q u33)<|mw q<|yw q (lS · q u33)<|yw q (y_neqN (i := ((a_).length)) (j := ((b_).length)) · q q)<|nw fun a s => c_dec s q (fun l0 => ?_) (fun l0 => ?_)
 ·replace hg := br_t hg l0
  refine S s<|vw<|aw q<|nw fun a s => ?_
  apply wp_ret
  refine p_thenR ?_
  obtain rfl := si hg
  exact fT f49 s q q q
 replace hg := br_f hg l0
 refine S s<|kw<|pw<|sw<|vw<|aw q<|nw<|bw fun a s => ?_
 refine c_loop (σ := Nat) (fun m1 a w => ∃ (a0 : Nat), r21_sameDefs_L0 n a_ b_ m1 a0 = some r ∧ St (cx f49 M w0) [(0, sl d0 a_ g0), (1, sl e0 b_ h0), (5, vI (((a0 : Nat) : Int)))] [] F a w) (fun m1 => m1) n ⟨(0), hg, (s.sb q q q)⟩ ?_
 clear s a; rintro m1 a w ⟨a0, hg, s⟩
 rcases m1 with _ | m1
 ·rw [r21_sameDefs_L0] at hg; cases hg
 rw [r21_sameDefs_L0] at hg
 refine S s<|sw<|vw<|mw q<|mw q<|yw q (lS · q u33)<|yw q (y_lssN (i := a0) (j := ((a_).length)) · q q)<|nw fun a s => c_dec s q (fun m0 => ?_) (fun m0 => ?_)
 ·replace hg := br_t hg m0
  have H3 := SlR.mx (s.ft 101 q)
  refine S s<|kw<|pw<|sw<|bw<|sw fun a s => ?_
  obtain ⟨k5, hg, c1⟩ := zJ hg
  refine c_post (fun a w => ∃ (q0 : Bool), k5 q0 = some r ∧ St (cx f49 M w0) [(0, sl d0 a_ g0), (1, sl e0 b_ h0), (5, vI (((a0 : Nat) : Int))), (55, .bool (q0))] [] F a w) ?_ ?_
  ·obtain ⟨x8, c0, hg⟩ := zB hg
   obtain ⟨i2, b0, hg⟩ := zB hg
   rcases Decidable.em ((x8.Name : List UInt8) ≠ i2.Name) with i0 | i0
   ·have k0 := decide_eq_true i0
    replace hg := br_t hg i0
    refine d_plan s [] [(0, some 0), (1, some 0), (2, some 0), (3, some 0), (4, some 0), (5, some 0), (6, some 0), (7, some 0), (8, some 0), (9, some 0), (10, some 0), (11, some 0), (12, some 0), (13, some 0), (14, some 0), (15, some 0), (16, some 0), (17, some 0), (18, some 0), (19, some 0), (20, some 0), (21, some 0), (22, some 0), (23, some 0), (24, some 0), (25, some 0), (26, some 0), (27, some 0), (28, some 0), (29, some 0), (30, some 0), (31, some 0), (32, some 0), (33, some 0), (34, some 0), (35, some 0), (36, some 0), (37, some 0), (38, some 0)] q (by kernel_rfl) (by kernel_rfl) q ?_; clear s; intro wr hZ s; have hR := s.wd
    refine S s<|qw hR q (mo · q)<|qw hR q (mo · q) fun a s => ?_
    obtain ⟨n4, a1, d1, n1, w3, P0, G0⟩ := SlR.elemX (s.ft 101 q) c0
    refine S s<|qw hR q (eL 6 a0 · u33 a1 (lt_of_get c0) q)<|qw hR q (pF 0 · u62 q) fun a s => ?_
    obtain ⟨j2, P2, k2, Q2, l2, R2, rfl, R3, S3, x1, y1, z1⟩ := RDef.open P0
    refine S s<|nsw 109 x1<|nsw 110 y1<|nsw 111 z1<|qw hR q (lP · d1 n1 (G0 0 _ q) u9 q)<|qw hR q (mo · q)<|qw hR q (mo · q) fun a s => ?_
    obtain ⟨o4, b1, e1, o1, x3, Q0, H0⟩ := SlR.elemX (s.ft 102 q) b0
    refine S s<|qw hR q (eL 6 a0 · u33 b1 (lt_of_get b0) q)<|qw hR q (pF 0 · u62 q) fun a s => ?_
    obtain ⟨m2, S2, n2, T2, o2, U2, rfl, T3, U3, B1, C1, D1⟩ := RDef.open Q0
    refine S s<|nsw 112 B1<|nsw 113 C1<|nsw 114 D1<|qw hR q (lP · e1 o1 (H0 0 _ q) u9 q)<|qw hR q (fun s => yl_b (y_sne s q q) k0)<|qw hR q (mo · q)<|qpw hR q<|qpw hR q<|qpw hR q<|qpw hR q<|qpw hR q<|qpw hR q<|qpw hR q<|qpw hR q<|qpw hR q<|qpw hR q<|qpw hR q<|qpw hR q<|qw hR q (pT · q q)<|qw hR q (mo · q)<|qpw hR q<|qpw hR q<|qpw hR q<|qpw hR q<|qpw hR q<|qpw hR q<|qpw hR q<|qpw hR q<|qpw hR q<|qpw hR q<|qpw hR q<|qpw hR q<|qw hR q (pT · q q) fun a s => ?_
    clear hR hZ
    apply pN
    exact ⟨(true), hg, (s.sb q q q)⟩
   have k0 := decide_eq_false i0
   replace hg := br_f hg i0
   obtain ⟨g2, F0, hg⟩ := zB hg
   rcases Bool.eq_false_or_eq_true (!(g2)) with j0 | j0
   ·replace hg := br_t hg j0
    refine d_steps s [] q ?_; clear s; intro wr hZ s; have hR := s.wd; have hE := fun g => Ext.init hR g
    refine S s<|nqw 0 0 hR q (mo · q)<|nqw 1 0 hR q (mo · q) fun a s => ?_
    obtain ⟨p4, t0, I3⟩ := SlR.elemX (s.ft 101 q) c0
    refine S s<|nqw 2 0 hR q (eL 6 a0 · u33 t0 (lt_of_get c0) q)<|nqw 3 0 hR q (pF 0 · u62 q) fun a s => ?_
    obtain ⟨g1, p1, y3, R0, I0⟩ := (SlR.again (s.ft 101 q) c0 t0)
    obtain ⟨p2, V2, q2, X2, r2, Y2, rfl, V3, X3, E1, F1, G1⟩ := RDef.open R0
    refine S s<|nsw 121 E1<|nsw 122 F1<|nsw 123 G1<|nqw 4 0 hR q (lP · g1 p1 (I0 0 _ q) u9 q)<|nqw 5 0 hR q (mo · q)<|nqw 6 0 hR q (mo · q) fun a s => ?_
    obtain ⟨q4, u0, J3⟩ := SlR.elemX (s.ft 102 q) b0
    refine S s<|nqw 7 0 hR q (eL 6 a0 · u33 u0 (lt_of_get b0) q)<|nqw 8 0 hR q (pF 0 · u62 q) fun a s => ?_
    obtain ⟨h1, q1, z3, S0, J0⟩ := (SlR.again (s.ft 102 q) b0 u0)
    obtain ⟨s2, Z2, t2, a3, u2, b3, rfl, Y3, Z3, H1, I1, J1⟩ := RDef.open S0
    refine S s<|nsw 124 H1<|nsw 125 I1<|nsw 126 J1<|nqw 9 0 hR q (lP · h1 q1 (J0 0 _ q) u9 q)<|nqw 10 0 hR q (fun s => yl_b (y_sne s q q) k0)<|nqw 11 0 hR q (mo · q)<|nqw 12 0 hR q (mo · q)<|nqw 13 0 hR q (mo · q) fun a s => ?_
    obtain ⟨r4, v0, K3⟩ := SlR.elemX (s.ft 101 q) c0
    refine S s<|nqw 14 0 hR q (eL 6 a0 · u33 v0 (lt_of_get c0) q)<|nqw 15 0 hR q (pF 1 · u62 q) fun a s => ?_
    obtain ⟨i1, r1, B3, T0, K0⟩ := (SlR.again (s.ft 101 q) c0 v0)
    obtain ⟨v2, c3, w2, d3, x2, e3, rfl, a4, b4, K1, L1, M1⟩ := RDef.open T0
    refine S s<|nsw 127 K1<|nsw 128 L1<|nsw 129 M1<|nqw 16 0 hR q (lD [_, _, _, _] 1 · i1 r1 K0 u60 q)<|nqw 17 0 hR q (mo · q)<|nqw 18 0 hR q (mo · q) fun a s => ?_
    obtain ⟨s4, x0, L3⟩ := SlR.elemX (s.ft 102 q) b0
    refine S s<|nqw 19 0 hR q (eL 6 a0 · u33 x0 (lt_of_get b0) q)<|nqw 20 0 hR q (pF 1 · u62 q) fun a s => ?_
    obtain ⟨j1, s1, C3, U0, L0⟩ := (SlR.again (s.ft 102 q) b0 x0)
    obtain ⟨y2, g3, z2, h3, B2, i3, rfl, c4, d4, O1, P1, Q1⟩ := RDef.open U0
    refine S s<|nsw 130 O1<|nsw 131 P1<|nsw 132 Q1<|nqw 21 0 hR q (lD [_, _, _, _] 1 · j1 s1 L0 u60 q) fun a s => ?_
    refine nC 22 s q q func70 (c_r19_SameDesc n _ _ s.lt _ _ _ _ _ (by omega) (s.ft 127 q) (s.ft 128 q) _ _ _ _ _ (by omega) (s.ft 130 q) (s.ft 131 q) _ F0) fun y4 a w hK hp s => ?_
    refine gA hE hZ hK fun hE hZ => ?_; clear hK
    obtain rfl := hp
    refine S s<|nzw 23 q (fun s => yl_b (y_not s q) j0)<|nzw 24 q (pO · q q)<|nzw 25 q (mo · q)<|nfw 26 (hE 0) q<|nfw 27 (hE 0) q<|nfw 28 (hE 0) q<|nfw 29 (hE 0) q<|nfw 30 (hE 0) q<|nfw 31 (hE 0) q<|npw 32 q<|npw 33 q<|npw 34 q<|npw 35 q<|npw 36 q<|npw 37 q<|nzw 38 q (pT · q q) fun a s => ?_
    refine n_end (by kernel_rfl) ?_; clear hR hZ hE
    apply pN
    exact ⟨(true), hg, (s.sb q q q)⟩
   replace hg := br_n hg j0
   obtain ⟨h2, e2, hg⟩ := zB hg
   refine d_steps s [] q ?_; clear s; intro wr hZ s; have hR := s.wd; have hE := fun g => Ext.init hR g
   refine S s<|nqw 0 0 hR q (mo · q)<|nqw 1 0 hR q (mo · q) fun a s => ?_
   obtain ⟨t4, y0, M3⟩ := SlR.elemX (s.ft 101 q) c0
   refine S s<|nqw 2 0 hR q (eL 6 a0 · u33 y0 (lt_of_get c0) q)<|nqw 3 0 hR q (pF 0 · u62 q) fun a s => ?_
   obtain ⟨k1, t1, D3, V0, M0⟩ := (SlR.again (s.ft 101 q) c0 y0)
   obtain ⟨C2, j3, D2, k3, E2, l3, rfl, e4, g4, R1, S1, T1⟩ := RDef.open V0
   refine S s<|nsw 139 R1<|nsw 140 S1<|nsw 141 T1<|nqw 4 0 hR q (lP · k1 t1 (M0 0 _ q) u9 q)<|nqw 5 0 hR q (mo · q)<|nqw 6 0 hR q (mo · q) fun a s => ?_
   obtain ⟨v4, z0, O3⟩ := SlR.elemX (s.ft 102 q) b0
   refine S s<|nqw 7 0 hR q (eL 6 a0 · u33 z0 (lt_of_get b0) q)<|nqw 8 0 hR q (pF 0 · u62 q) fun a s => ?_
   obtain ⟨l1, u1, E3, X0, O0⟩ := (SlR.again (s.ft 102 q) b0 z0)
   obtain ⟨F2, m3, G2, n3, H2, o3, rfl, h4, i4, U1, V1, X1⟩ := RDef.open X0
   refine S s<|nsw 142 U1<|nsw 143 V1<|nsw 144 X1<|nqw 9 0 hR q (lP · l1 u1 (O0 0 _ q) u9 q)<|nqw 10 0 hR q (fun s => yl_b (y_sne s q q) k0)<|nqw 11 0 hR q (mo · q)<|nqw 12 0 hR q (mo · q)<|nqw 13 0 hR q (mo · q) fun a s => ?_
   obtain ⟨w4, o0, P3⟩ := SlR.elemX (s.ft 101 q) c0
   refine S s<|nqw 14 0 hR q (eL 6 a0 · u33 o0 (lt_of_get c0) q)<|nqw 15 0 hR q (pF 1 · u62 q) fun a s => ?_
   obtain ⟨B0, D0, F3, Y0, r0⟩ := (SlR.again (s.ft 101 q) c0 o0)
   obtain ⟨I2, p3, J2, q3, K2, r3, rfl, j4, k4, Y1, Z1, a2⟩ := RDef.open Y0
   refine S s<|nsw 145 Y1<|nsw 146 Z1<|nsw 147 a2<|nqw 16 0 hR q (lD [_, _, _, _] 1 · B0 D0 r0 u60 q)<|nqw 17 0 hR q (mo · q)<|nqw 18 0 hR q (mo · q) fun a s => ?_
   obtain ⟨x4, p0, Q3⟩ := SlR.elemX (s.ft 102 q) b0
   refine S s<|nqw 19 0 hR q (eL 6 a0 · u33 p0 (lt_of_get b0) q)<|nqw 20 0 hR q (pF 1 · u62 q) fun a s => ?_
   obtain ⟨C0, E0, G3, Z0, s0⟩ := (SlR.again (s.ft 102 q) b0 p0)
   obtain ⟨L2, s3, M2, t3, O2, v3, rfl, l4, m4, b2, c2, d2⟩ := RDef.open Z0
   refine S s<|nsw 148 b2<|nsw 149 c2<|nsw 150 d2<|nqw 21 0 hR q (lD [_, _, _, _] 1 · C0 E0 s0 u60 q) fun a s => ?_
   refine nC 22 s q q func70 (c_r19_SameDesc n _ _ s.lt _ _ _ _ _ (by omega) (s.ft 145 q) (s.ft 146 q) _ _ _ _ _ (by omega) (s.ft 148 q) (s.ft 149 q) _ F0) fun z4 a w hK hp s => ?_
   refine gA hE hZ hK fun hE hZ => ?_; clear hK
   obtain rfl := hp
   refine S s<|nzw 23 q (fun s => yl_b (y_not s q) j0)<|nzw 24 q (pO · q q)<|nzw 25 q (mo · q)<|new 26 (hE 0) q (fun w' s => y_move s q)<|new 27 (hE 0) q (fun w' s => y_move s q)<|new 28 (hE 0) q (fun w' s => y_elem (sz := 6) (i := a0) s q q u33 q o0 q (lt_of_get c0))<|new 29 (hE 0) q (fun w' s => y_ptrField (o' := 5) s q u62 q q q)<|nmw 30 0 hR hE q (lP · B0 D0 (r0 5 _ q) u58 q)<|new 31 (hE 0) q (fun w' s => y_move s q)<|nzw 32 q (mo · q)<|nzw 33 q (eL 6 a0 · u33 p0 (lt_of_get b0) q)<|nzw 34 q (pF 5 · u62 q)<|nmw 35 0 hR hE q (lP · C0 E0 (s0 5 _ q) u58 q) fun a s => ?_
   refine nC 36 s q q func71 (c_r19_SameDescs n (r19_SameDesc n) (c_r19_SameDesc n) _ _ s.lt _ _ _ (s.ft 147 q) _ _ _ (s.ft 150 q) _ e2) fun B4 a w hK hp s => ?_
   refine gA hE hZ hK fun hE hZ => ?_; clear hK
   obtain rfl := hp
   refine S s<|nzw 37 q (y_not · q)<|nzw 38 q (pO · q q) fun a s => ?_
   refine n_end (by kernel_rfl) ?_; clear hR hZ hE
   apply pN
   exact ⟨(!(h2)), hg, (s.sb q q q)⟩
  clear s a; rintro a w ⟨q0, hg, s⟩
  subst c1
  refine c_cond s q (fun n0 => ?_) (fun n0 => ?_)
  ·replace hg := br_t hg n0
   refine S s<|vw<|aw q<|nw fun a s => ?_
   apply wp_ret
   refine p_inR ?_
   refine p_thenR ?_
   refine p_thenR ?_
   refine p_inR ?_
   refine p_thenR ?_
   obtain rfl := si hg
   exact fT f49 s q q q
  replace hg := br_n hg n0
  apply wp_skip
  refine p_inN ?_
  refine S s<|pw<|lw<|mw q<|yw q (y_addN (i := a0) (j := 1) · q q (in64.2 (by omega)))<|aw q<|nw fun a s => ?_
  exact ⟨m1, Nat.lt_succ_self _, ⟨(a0 + 1), hg, (s.sb q q q)⟩⟩
 replace hg := br_f hg m0
 apply wp_exit
 refine p_then ?_
 refine p_then ?_
 refine p_in ?_
 refine S s<|pw<|vw<|aw q<|nw fun a s => ?_
 apply wp_ret
 obtain rfl := si hg
 exact fT f49 s q q q
theorem c_r21_SameAffix (n : Nat) (M : Bs) (w0 : World) (hM : bM M w0) (a_ : Affix) (b0 : OA) (d0 : Nat) (B0 : sR RChange M w0 b0 d0 a_.Pairs) (b_ : Affix) (c0 : OA) (e0 : Nat) (C0 : sR RChange M w0 c0 e0 b_.Pairs) (r : Bool) (hg : r21_SameAffix n a_ b_ = some r) :
    CA Tryz.prog 72 [.agg #[.int .i64 (a_.Kind), sl b0 a_.Pairs d0], .agg #[.int .i64 (b_.Kind), sl c0 b_.Pairs e0]] w0 (fun v w => v = .bool (r)) := by
 unfold r21_SameAffix at hg
 refine enter M noB func72 q q hM ?_
 intro a s
 let F : Al Fact := [(101, sF RChange b0 d0 a_.Pairs), (102, sF RChange c0 e0 b_.Pairs)]
 refine S s<|esw 101 B0<|esw 102 C0<|vw fun a s => ?_
 refine l_seq q (l_box (zs := [vI a_.Kind, sl b0 a_.Pairs d0]) s 1000 q q q q fun b3 a w hb hK s => ?_)
 refine l_seq q (l_box (zs := [vI b_.Kind, sl c0 b_.Pairs e0]) s 1001 q q q q fun b4 a w hb hK s => ?_)
 refine S s<|aw q<|nw<|sw<|sw fun a s => ?_
 obtain ⟨k5, hg, u0⟩ := zJ hg
 refine c_post (fun a w => ∃ (l0 : Bool), k5 l0 = some r ∧ St (cx f72 M w0) [(2, vP b3 0), (3, vP b4 0), (19, .bool (l0))] [(1000, Ob.box b3 [vI a_.Kind, sl b0 a_.Pairs d0] 92), (1001, Ob.box b4 [vI b_.Kind, sl c0 b_.Pairs e0] 92)] F a w) ?_ ?_
 ·rcases Decidable.em (a_.Kind ≠ b_.Kind) with g0 | g0
  ·have k0 := decide_eq_true g0
   replace hg := br_t hg g0
   refine S s<|lw<|yw q (bF 0 · u92 q)<|yw q (lB 1000 · u3 q)<|yw q (bF 0 · u92 q)<|yw q (lB 1001 · u3 q)<|yw q (fun s => yl_b (y_neq s q q) k0)<|mw q<|gw q<|gw q<|gw q<|gw q<|gw q<|gw q<|gw q<|tw_ q<|nw fun a s => ?_
   exact ⟨(true), hg, (s.sb q q q)⟩
  have k0 := decide_eq_false g0
  replace hg := br_f hg g0
  refine S s<|lw<|yw q (bF 0 · u92 q)<|yw q (lB 1000 · u3 q)<|yw q (bF 0 · u92 q)<|yw q (lB 1001 · u3 q)<|yw q (fun s => yl_b (y_neq s q q) k0)<|mw q<|zw q (bF 1 · u92 q)<|zw q (lB 1000 · u90 q)<|zw q (lS · q u90)<|zw q (bF 1 · u92 q)<|zw q (lB 1001 · u90 q)<|zw q (lS · q u90)<|zw q (y_neqN (i := ((a_.Pairs).length)) (j := ((b_.Pairs).length)) · q q)<|fw q<|nw fun a s => ?_
  exact ⟨(decide (((a_.Pairs).length) ≠ ((b_.Pairs).length))), hg, (s.sb q q q)⟩
 clear s a; rintro a w ⟨l0, hg, s⟩
 subst u0
 refine c_cond s q (fun j0 => ?_) (fun j0 => ?_)
 ·replace hg := br_t hg j0
  refine S s<|vw<|aw q<|nw fun a s => ?_
  apply wp_ret
  refine p_thenR ?_
  obtain rfl := si hg
  exact fT f72 s q q q
 replace hg := br_n hg j0
 refine S s<|kw<|pw<|sw<|vw<|aw q<|nw<|bw fun a s => ?_
 refine c_loop (σ := Nat) (fun m1 a w => ∃ (a0 : Nat), r21_SameAffix_L0 n a_ b_ m1 a0 = some r ∧ St (cx f72 M w0) [(2, vP b3 0), (3, vP b4 0), (5, vI (((a0 : Nat) : Int)))] [(1000, Ob.box b3 [vI a_.Kind, sl b0 a_.Pairs d0] 92), (1001, Ob.box b4 [vI b_.Kind, sl c0 b_.Pairs e0] 92)] F a w) (fun m1 => m1) n ⟨(0), hg, (s.sb q q q)⟩ ?_
 clear s a; rintro m1 a w ⟨a0, hg, s⟩
 rcases m1 with _ | m1
 ·rw [r21_SameAffix_L0] at hg; cases hg
 rw [r21_SameAffix_L0] at hg
 refine S s<|sw<|vw<|mw q<|yw q (bF 1 · u92 q)<|yw q (lB 1000 · u90 q)<|yw q (lS · q u90)<|yw q (y_lssN (i := a0) (j := ((a_.Pairs).length)) · q q)<|nw fun a s => c_dec s q (fun h0 => ?_) (fun h0 => ?_)
 ·replace hg := br_t hg h0
  have H0 := SlR.mx (s.ft 101 q)
  obtain ⟨D0, m0, hg⟩ := zB hg
  obtain ⟨E0, n0, hg⟩ := zB hg
  refine S s<|kw<|pw<|sw<|bw<|sw fun a s => ?_
  refine d_plan s [] [(0, some 0), (1, some 1000), (2, some 0), (3, some 0), (4, some 0), (5, some 0), (6, some 1001), (7, some 0), (8, some 0), (9, some 0), (10, some 0)] q (by kernel_rfl) (by kernel_rfl) q ?_; clear s; intro wr hZ s; have hR := s.wd
  refine S s<|qw hR q (bF 1 · u92 q)<|qw hR q (lB 1000 · u90 q)<|qw hR q (mo · q) fun a s => ?_
  obtain ⟨M0, s0, v0, y0, F0, q0, o0⟩ := SlR.elemX (s.ft 101 q) m0
  refine qt s hR q (eL 2 a0 s u90 s0 (lt_of_get m0) q) fun a s => ?_
  obtain ⟨rfl, I0, J0⟩ := RChange.open q0
  refine S s<|qw hR q (y_ldp · q v0 y0 (by simpa using o0) u144 q q)<|qw hR q (bF 1 · u92 q)<|qw hR q (lB 1001 · u90 q)<|qw hR q (mo · q) fun a s => ?_
  obtain ⟨O0, t0, x0, z0, G0, r0, p0⟩ := SlR.elemX (s.ft 102 q) n0
  refine qt s hR q (eL 2 a0 s u90 t0 (lt_of_get n0) q) fun a s => ?_
  obtain ⟨rfl, K0, L0⟩ := RChange.open r0
  refine S s<|qw hR q (y_ldp · q x0 z0 (by simpa using p0) u144 q q)<|qw hR q (y_neqS · q q (by kernel_rfl) (fun w' => eqChange D0 E0 w')) fun a s => ?_
  clear hR hZ
  apply pN
  refine c_not s q (fun i0 => ?_) (fun i0 => ?_)
  ·replace hg := br_f hg i0
   refine S s<|vw<|aw q<|nw fun a s => ?_
   apply wp_ret
   refine p_inR ?_
   refine p_thenR ?_
   refine p_thenR ?_
   refine p_inR ?_
   refine p_thenR ?_
   obtain rfl := si hg
   exact fT f72 s q q q
  replace hg := br_t hg i0
  apply wp_skip
  refine p_inN ?_
  refine S s<|pw<|lw<|mw q<|yw q (y_addN (i := a0) (j := 1) · q q (in64.2 (by omega)))<|aw q<|nw fun a s => ?_
  exact ⟨m1, Nat.lt_succ_self _, ⟨(a0 + 1), hg, (s.sb q q q)⟩⟩
 replace hg := br_f hg h0
 apply wp_exit
 refine p_then ?_
 refine p_then ?_
 refine p_in ?_
 refine S s<|pw<|vw<|aw q<|nw fun a s => ?_
 apply wp_ret
 obtain rfl := si hg
 exact fT f72 s q q q
end Go.Proofs.YtbhjplflnkidgaaGreat
