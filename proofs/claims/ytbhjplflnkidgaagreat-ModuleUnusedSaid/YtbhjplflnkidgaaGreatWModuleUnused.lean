/- Chapter 22: the walk of ModuleUnused -/
import Derived.Test.YtbhjplflnkidgaaGreatAU
import Derived.Test.YtbhjplflnkidgaaGreatWEx
import Derived.Test.YtbhjplflnkidgaaGreatWSMod
namespace Go.Proofs.YtbhjplflnkidgaaGreat
open Go.Gl Go.RowKit Tryz
set_option linter.unusedVariables false
set_option linter.unusedSimpArgs false
set_option maxRecDepth 4000

set_option maxHeartbeats 1000000 in
theorem c_law22_ModuleUnused (n : Nat) (M : Bs) (w0 : World) (hM : ∀ b, M b → b < w0.heap.size) (t_ : (List Module)) (b0 : Option Addr) (c0 : Nat) (V1 : sR RModule M w0 b0 c0 t_) (t_' : (List UInt8)) (S5 : (t_').length ≤ 9223372036854775807) (r : Bool) (hg : law22_ModuleUnused n t_ t_' = some r) :
    Calls Tryz.prog 9 [sl b0 t_ c0, vT t_'].toArray w0 (Ret noB w0 fun v w => v = .bool (r)) := by
 unfold law22_ModuleUnused at hg
 refine enter M noB func9 q q hM ?_
 intro a s
 refine S s<|esw 101 V1<|vw<|aw q<|nw<|sw<|sw fun a s => ?_
 obtain ⟨k1, hg, O1⟩ := jn_some hg
 refine c_post (fun a w => ∃ (E0 : Bool), k1 E0 = some r ∧ St (cx f9 M w0) [(0, sl b0 t_ c0), (1, vT (t_')), (31, .bool (E0))] [] [(101, sF RModule b0 c0 t_)] a w) ?_ ?_
 ·obtain ⟨r3, B0, hg⟩ := bind_some hg
  rcases Bool.eq_false_or_eq_true (!(r3)) with n0 | n0
  ·replace hg := br_t hg n0
   refine d_steps s [] q ?_; clear s; intro wr hZ s; have hR := s.wd; have hE := Ext.init hR 0
   refine S s<|nqw 0 0 hR q (mo · q) fun a s => ?_
   refine nC 1 s q q func10 (c_law22_light n _ _ s.lt _ _ _ (s.ft 101 q) _ B0) fun v7 a w hK hp s => ?_
   refine gk hE hZ hK fun hE hZ => ?_; clear hK
   obtain rfl := hp
   refine S s<|nzw 2 q (fun s => yl_b (y_not s q) n0)<|nzw 3 q (mo · q)<|npw 4 q<|npw 5 q<|npw 6 q<|nzw 7 q (pT · q q)<|nzw 8 q (mo · q)<|nfw 9 hE q<|nfw 10 hE q<|nfw 11 hE q<|nfw 12 hE q<|npw 13 q<|npw 14 q<|npw 15 q<|npw 16 q<|npw 17 q<|npw 18 q<|npw 19 q<|nzw 20 q (pT · q q) fun a s => ?_
   refine n_end (by kernel_rfl) ?_; clear hR hZ hE
   apply pN
   exact ⟨(true), hg, (s.sb q q q)⟩
  replace hg := br_n hg n0
  rcases Decidable.em (((t_).length) = 0) with s0 | s0
  ·have C0 := decide_eq_true s0
   replace hg := br_t hg s0
   refine d_steps s [] q ?_; clear s; intro wr hZ s; have hR := s.wd; have hE := Ext.init hR 0
   refine S s<|nqw 0 0 hR q (mo · q) fun a s => ?_
   refine nC 1 s q q func10 (c_law22_light n _ _ s.lt _ _ _ (s.ft 101 q) _ B0) fun k6 a w hK hp s => ?_
   refine gk hE hZ hK fun hE hZ => ?_; clear hK
   obtain rfl := hp
   refine S s<|nzw 2 q (fun s => yl_b (y_not s q) n0)<|nzw 3 q (mo · q)<|nzw 4 q (mo · q)<|nzw 5 q (lS · q u22)<|nzw 6 q (fun s => yl_b (y_eqlN (i := ((t_).length)) (j := 0) s q q) C0)<|nzw 7 q (pO · q q)<|nzw 8 q (mo · q)<|nfw 9 hE q<|nfw 10 hE q<|nfw 11 hE q<|nfw 12 hE q<|npw 13 q<|npw 14 q<|npw 15 q<|npw 16 q<|npw 17 q<|npw 18 q<|npw 19 q<|nzw 20 q (pT · q q) fun a s => ?_
   refine n_end (by kernel_rfl) ?_; clear hR hZ hE
   apply pN
   exact ⟨(true), hg, (s.sb q q q)⟩
  have C0 := decide_eq_false s0
  replace hg := br_f hg s0
  obtain ⟨e6, y0, hg⟩ := bind_some hg
  obtain ⟨d7, h0, hg⟩ := bind_some hg
  obtain ⟨D0, z0, hg⟩ := bind_some hg
  refine d_steps s [] q ?_; clear s; intro wr hZ s; have hR := s.wd; have hE := Ext.init hR 0
  refine S s<|nqw 0 0 hR q (mo · q) fun a s => ?_
  refine nC 1 s q q func10 (c_law22_light n _ _ s.lt _ _ _ (s.ft 101 q) _ B0) fun K6 a w hK hp s => ?_
  refine gk hE hZ hK fun hE hZ => ?_; clear hK
  obtain rfl := hp
  refine S s<|nzw 2 q (fun s => yl_b (y_not s q) n0)<|nzw 3 q (mo · q)<|nzw 4 q (mo · q)<|nzw 5 q (lS · q u22)<|nzw 6 q (fun s => yl_b (y_eqlN (i := ((t_).length)) (j := 0) s q q) C0)<|nzw 7 q (pO · q q)<|nzw 8 q (mo · q)<|new 9 hE q (fun w' s => y_move s q)<|new 10 hE q (fun w' s => y_move s q)<|new 12 hE q (fun w' s => y_move s q)<|new 13 hE q (fun w' s => y_move s q) fun a s => ?_
  refine n_2 11 14 s (by kernel_rfl) q ⟨_, _, _, q, q, q, q⟩ q ⟨_, _, _, q, q, q, q⟩ ?_ ?_
  ·refine l_call (cap := []) s q func21 q (by kernel_rfl) q q (c_r22_Needs n _ _ s.lt _ _ _ (s.ft 101 q) _ (by omega) _ y0) fun L6 a w hK hp s => ?_
   refine gk hE hZ hK fun hE hZ => ?_; clear hK
   obtain ⟨r4, w5, rfl, S2⟩ := hp
   refine S s<|nsw 112 S2<|nzw 14 q (lS · q u22) fun a s => ?_
   have K5 := SlR.mx (s.ft 101 q)
   refine S s<|nzw 15 q (y_sub · q q (in64.2 (by omega))) fun a s => ?_
   obtain ⟨Z5, F0, Q5⟩ := SlR.elemX (s.ft 101 q) (ix_some h0).1
   refine S s<|nzw 16 q (y_elem (sz := 10) (i := (((((t_).length : Nat) : Int) - 1).toNat)) · q q u22 q F0 (ix_some h0).2.1 (lt_of_get (ix_some h0).1))<|nzw 17 q (pF 0 · u38 q) fun a s => ?_
   obtain ⟨P1, S1, h5, K1, H1⟩ := (SlR.again (s.ft 101 q) (ix_some h0).1 F0)
   obtain ⟨C3, E4, D3, F4, E3, G4, F3, H4, G3, I4, H3, J4, I3, K4, J3, L4, B3, D4, rfl, T5, Y1, Z1, a2, b2, c2, d2, e2, g2, X1⟩ := RModule.open K1
   refine S s<|nsw 113 Y1<|nsw 114 Z1<|nsw 115 a2<|nsw 116 b2<|nsw 117 c2<|nsw 118 d2<|nsw 119 e2<|nsw 120 g2<|nsw 121 X1<|nzw 18 q (lP · P1 S1 (H1 0 _ q) u9 q) fun a s => ?_
   refine nC 19 s q q func20 (c_law22_has n _ _ s.lt _ _ _ (s.ft 112 q) _ (by omega) _ z0) fun M6 a w hK hp s => ?_
   refine gk hE hZ hK fun hE hZ => ?_; clear hK
   obtain rfl := hp
   refine S s<|nzw 20 q (pO · q q) fun a s => ?_
   refine n_end (by kernel_rfl) ?_; clear hR hZ hE
   apply pN
   exact ⟨(D0), hg, (s.sb q q q)⟩
  ·refine l_quiet s q q (lS s q u22) fun a s => ?_; refine ⟨fun g _ h => h, ?_⟩
   have L5 := SlR.mx (s.ft 101 q)
   refine S s<|new 15 hE q (fun w' s => y_sub s q q (in64.2 (by omega))) fun a s => ?_
   obtain ⟨a6, u0, R5⟩ := SlR.elemX (s.ft 101 q) (ix_some h0).1
   refine S s<|new 16 hE q (fun w' s => y_elem (sz := 10) (i := (((((t_).length : Nat) : Int) - 1).toNat)) s q q u22 q u0 (ix_some h0).2.1 (lt_of_get (ix_some h0).1))<|new 17 hE q (fun w' s => y_ptrField (o' := 0) s q u38 q q q) fun a s => ?_
   refine n_2 11 18 s (by kernel_rfl) q ⟨_, _, _, q, q, q, q⟩ q ⟨_, _, _, q, q, q, q⟩ ?_ ?_
   ·refine l_call (cap := []) s q func21 q (by kernel_rfl) q q (c_r22_Needs n _ _ s.lt _ _ _ (s.ft 101 q) _ (by omega) _ y0) fun O6 a w hK hp s => ?_
    refine gk hE hZ hK fun hE hZ => ?_; clear hK
    obtain ⟨s4, x5, rfl, T2⟩ := hp
    replace s := s.ns 122 T2
    obtain ⟨Q1, T1, i5, L1, I1⟩ := (SlR.again (s.ft 101 q) (ix_some h0).1 u0)
    obtain ⟨L3, O4, M3, P4, O3, Q4, P3, R4, Q3, S4, R3, T4, S3, U4, T3, V4, K3, M4, rfl, U5, i2, j2, k2, l2, m2, n2, o2, p2, h2⟩ := RModule.open L1
    refine S s<|nsw 123 i2<|nsw 124 j2<|nsw 125 k2<|nsw 126 l2<|nsw 127 m2<|nsw 128 n2<|nsw 129 o2<|nsw 130 p2<|nsw 131 h2<|nzw 18 q (lP · Q1 T1 (I1 0 _ q) u9 q) fun a s => ?_
    refine nC 19 s q q func20 (c_law22_has n _ _ s.lt _ _ _ (s.ft 122 q) _ (by omega) _ z0) fun P6 a w hK hp s => ?_
    refine gk hE hZ hK fun hE hZ => ?_; clear hK
    obtain rfl := hp
    refine S s<|nzw 20 q (pO · q q) fun a s => ?_
    refine n_end (by kernel_rfl) ?_; clear hR hZ hE
    apply pN
    exact ⟨(D0), hg, (s.sb q q q)⟩
   ·obtain ⟨R1, U1, j5, M1, J1⟩ := (SlR.again (s.ft 101 q) (ix_some h0).1 u0)
    obtain ⟨V3, Y4, X3, Z4, Y3, a5, Z3, b5, a4, c5, b4, d5, c4, e5, d4, g5, U3, X4, rfl, V5, r2, s2, t2, u2, v2, w2, x2, y2, q2⟩ := RModule.open M1
    replace s := s.ns 132 r2 |>.ns 133 s2 |>.ns 134 t2 |>.ns 135 u2 |>.ns 136 v2 |>.ns 137 w2 |>.ns 138 x2 |>.ns 139 y2 |>.ns 140 q2
    refine l_quiet s q q (lP s R1 U1 (J1 0 _ q) u9 q) fun a s => ?_; refine ⟨fun g _ h => h, ?_⟩
    refine nC 11 s q q func21 (c_r22_Needs n _ _ s.lt _ _ _ (s.ft 101 q) _ (by omega) _ y0) fun Q6 a w hK hp s => ?_
    refine gk hE hZ hK fun hE hZ => ?_; clear hK
    obtain ⟨t4, y5, rfl, U2⟩ := hp
    replace s := s.ns 141 U2
    refine nC 19 s q q func20 (c_law22_has n _ _ s.lt _ _ _ (s.ft 141 q) _ (by omega) _ z0) fun R6 a w hK hp s => ?_
    refine gk hE hZ hK fun hE hZ => ?_; clear hK
    obtain rfl := hp
    refine S s<|nzw 20 q (pO · q q) fun a s => ?_
    refine n_end (by kernel_rfl) ?_; clear hR hZ hE
    apply pN
    exact ⟨(D0), hg, (s.sb q q q)⟩
 clear s a; rintro a w ⟨E0, hg, s⟩
 subst O1
 refine c_cond s q (fun t0 => ?_) (fun t0 => ?_)
 ·replace hg := br_t hg t0
  obtain ⟨g6, z2, hg⟩ := bind_some hg
  apply wQ
  apply wL
  refine lV s q func11 (c_law22_exampleHolds n _ _ s.lt  _ z2) fun a w hK s => ?_
  refine S s<|aw q<|nw fun a s => ?_
  apply wp_ret
  refine p_thenR ?_
  obtain rfl := si hg
  exact fin1 (fn := Tryz.f9) s q (r_tmp s q) q
 replace hg := br_n hg t0
 obtain ⟨d0, B2, hg⟩ := bind_some hg
 refine S s<|kw<|pw<|sw<|lw<|mw q<|mw q fun a s => ?_
 refine lC s q func17 (c_module_Link n _ _ s.lt _ _ _ (s.ft 101 q) _ (by omega) _ B2) fun S6 a w hK hp s => ?_
 obtain ⟨K0, e1, L0, g1, M0, h1, O0, i1, P0, j1, Q0, l1, R0, m1, S0, n1, J0, d1, rfl, X5, X2, Y2, Z2, a3, b3, c3, d3, e3, V2⟩ := hp
 refine S s<|nsw 151 X2<|nsw 152 Y2<|nsw 153 Z2<|nsw 154 a3<|nsw 155 b3<|nsw 156 c3<|nsw 157 d3<|nsw 158 e3<|nsw 159 V2<|mw q<|yw q (y_extract · q q)<|yw q (y_extract · q q) fun a s => ?_
 refine l_seq q (l_alloc (zs := [vT ([]), nS, nS, nS, nS, nS, nS, nS, nS, nS]) s 1306 q q q q fun B4 a w hb hK s => ?_)
 refine l_seq q (l_store (n := 10) (cs' := [vT d0.1.Name, sl K0 d0.1.Imports e1, sl L0 d0.1.Types g1, sl M0 d0.1.Templates h1, sl O0 d0.1.Entries i1, sl P0 d0.1.LexRules j1, sl Q0 d0.1.Rules l1, sl R0 d0.1.Roots m1, sl S0 d0.1.Checks n1, sl J0 d0.1.Drops d1]) s 1306 q q q q q q q q ?_); clear s; intro w hK s; clear hK
 obtain ⟨F5, hg⟩ := chk_some hg
 obtain ⟨a0, hg⟩ := chk_some hg
 obtain ⟨e0, C2, hg⟩ := bind_some hg
 refine S s<|aw q<|nw<|sw<|lw<|mw q<|mw q<|yw q (lS · q u22) fun a s => ?_
 have M5 := SlR.mx (s.ft 101 q)
 refine qq s q (y_sub s q q (in64.2 (by omega))) fun a s => ?_
 have x1 := (s.ft 101 q).cap
 refine qq s q (y_cutH (xs := t_) (sz := 10) (i := (((((t_).length : Nat) : Int) - 1).toNat)) s q q u22 q (by omega) a0 x1) fun a s => ?_
 replace s := s.add 170 (slF RModule (b0) (((t_).take (((((t_).length : Nat) : Int) - 1).toNat)).length) (c0) ((t_).take (((((t_).length : Nat) : Int) - 1).toNat))) (SlR.cutH (s.ft 101 q) (((((t_).length : Nat) : Int) - 1).toNat) a0)
 refine mv s q q fun a s => ?_
 refine lC s q func17 (c_module_Link n _ _ s.lt _ _ _ (s.ft 170 q) _ (by omega) _ C2) fun T6 a w hK hp s => ?_
 obtain ⟨U0, p1, V0, q1, X0, r1, Y0, s1, Z0, t1, a1, u1, b1, v1, c1, w1, T0, o1, rfl, Y5, h3, i3, j3, k3, l3, m3, n3, o3, g3⟩ := hp
 refine S s<|nsw 171 h3<|nsw 172 i3<|nsw 173 j3<|nsw 174 k3<|nsw 175 l3<|nsw 176 m3<|nsw 177 n3<|nsw 178 o3<|nsw 179 g3<|mw q<|yw q (y_extract · q q)<|yw q (y_extract · q q) fun a s => ?_
 refine l_seq q (l_alloc (zs := [vT ([]), nS, nS, nS, nS, nS, nS, nS, nS, nS]) s 1410 q q q q fun C4 a w hb hK s => ?_)
 refine l_seq q (l_store (n := 10) (cs' := [vT e0.1.Name, sl U0 e0.1.Imports p1, sl V0 e0.1.Types q1, sl X0 e0.1.Templates r1, sl Y0 e0.1.Entries s1, sl Z0 e0.1.LexRules t1, sl a1 e0.1.Rules u1, sl b1 e0.1.Roots v1, sl c1 e0.1.Checks w1, sl T0 e0.1.Drops o1]) s 1410 q q q q q q q q ?_); clear s; intro w hK s; clear hK
 obtain ⟨y3, D2, hg⟩ := bind_some hg
 refine S s<|aw q<|nw<|sw<|lw<|mw q<|mw q fun a s => ?_
 refine lC s q func12 (c_module_Order n _ _ s.lt _ _ _ (s.ft 101 q) _ (by omega) _ D2) fun U6 a w hK hp s => ?_
 obtain ⟨v4, z5, rfl, p3⟩ := hp
 refine S s<|nsw 181 p3<|mw q<|yw q (y_extract · q q)<|yw q (y_extract · q q)<|aw q<|aw q<|nw<|sw fun a s => ?_
 rcases Decidable.em (y3.2 = 4) with q0 | q0
 ·have i0 := decide_eq_true q0
  replace hg := br_t hg q0
  obtain ⟨h6, G0, hg⟩ := bind_some hg
  obtain ⟨i6, H0, hg⟩ := bind_some hg
  obtain ⟨z3, I0, hg⟩ := bind_some hg
  rcases Bool.eq_false_or_eq_true (z3) with r0 | r0
  ·replace hg := br_t hg r0
   obtain ⟨j6, E2, hg⟩ := bind_some hg
   refine d_plan s [] [(0, some 0), (1, some 0), (2, some 0), (3, some 0), (4, some 0), (5, some 0), (6, some 0), (7, some 0), (8, some 0), (9, some 0), (10, some 0), (11, some 0), (12, some 0), (13, some 0), (14, some 0), (16, some 0), (17, some 0), (18, some 0), (19, some 0), (20, some 0), (21, some 0), (15, none), (22, none), (23, none), (24, none), (25, none), (26, none), (27, none), (28, none)] q (by kernel_rfl) (by kernel_rfl) q ?_; clear s; intro wr hZ s; have hR := s.wd
   refine S s<|qw hR q (mo · q)<|qw hR q (fun s => yl_b (y_eql s q q) i0)<|qw hR q (mo · q)<|qpw hR q<|qpw hR q<|qpw hR q<|qpw hR q<|qpw hR q<|qpw hR q<|qpw hR q<|qpw hR q<|qw hR q (pT · q q)<|qw hR q (mo · q) fun a s => ?_
   refine qg s hR q (mo s q) fun a s => ?_
   refine qg s hR q (mo s q) fun a s => ?_
   refine qg s hR q (mo s q) fun a s => ?_
   refine qg s hR q (mo s q) fun a s => ?_
   refine qg s hR q (lS s q u22) fun a s => ?_
   have O5 := SlR.mx (s.ft 101 q)
   refine qg s hR q (y_sub s q q (in64.2 (by omega))) fun a s => ?_
   have y1 := (s.ft 101 q).cap
   refine qg s hR q (y_cutH (xs := t_) (sz := 10) (i := (((((t_).length : Nat) : Int) - 1).toNat)) s q q u22 q (by omega) a0 y1) fun a s => ?_
   replace s := s.add 185 (slF RModule (b0) (((t_).take (((((t_).length : Nat) : Int) - 1).toNat)).length) (c0) ((t_).take (((((t_).length : Nat) : Int) - 1).toNat))) (SlR.cutH (s.ft 101 q) (((((t_).length : Nat) : Int) - 1).toNat) a0)
   refine qg s hR q (mo s q) fun a s => ?_
   refine l_take s q ⟨_, _, _, q, q, q, q⟩ (l_call (cap := []) s q func15 q (by kernel_rfl) q q (c_module_Visible n _ _ s.lt _ _ _ (s.ft 101 q) _ (by omega) _ G0) fun V6 a w hK hp s => ?_)
   refine gz hZ hK fun hZ => ?_; clear hK
   obtain ⟨w4, B5, rfl, q3⟩ := hp
   replace s := s.ns 186 q3
   refine l_take s q ⟨_, _, _, q, q, q, q⟩ (l_call (cap := []) s q func15 q (by kernel_rfl) q q (c_module_Visible n _ _ s.lt _ _ _ (s.ft 185 q) _ (by omega) _ H0) fun X6 a w hK hp s => ?_)
   refine gz hZ hK fun hZ => ?_; clear hK
   obtain ⟨x4, C5, rfl, s3⟩ := hp
   replace s := s.ns 187 s3
   refine l_take s q ⟨_, _, _, q, q, q, q⟩ (l_call (cap := []) s q func14 q (by kernel_rfl) q q (c_r01_Same n _ _ s.lt _ _ _ (s.ft 186 q) _ _ _ (s.ft 187 q) _ I0) fun Y6 a w hK hp s => ?_)
   refine gz hZ hK fun hZ => ?_; clear hK
   obtain rfl := hp.trans (congrArg Value.bool r0)
   refine S s<|tw q (pT · q q)<|tw q (mo · q) fun a s => ?_
   refine l_take s q ⟨_, _, _, q, q, q, q⟩ (l_call (cap := []) s q func11 q (by kernel_rfl) q q (c_law22_exampleHolds n _ _ s.lt  _ E2) fun Z6 a w hK hp s => ?_)
   refine gz hZ hK fun hZ => ?_; clear hK
   obtain rfl := hp
   refine S s<|tw q (pT · q q)<|tw q (y_assign · q) fun a s => ?_
   clear hR hZ
   apply pN
   apply wp_ret
   obtain rfl := si hg
   exact fin1 (fn := Tryz.f9) s q (r_tmp s q) q
  replace hg := br_n hg r0
  refine d_plan s [] [(0, some 0), (1, some 0), (2, some 0), (3, some 0), (4, some 0), (5, some 0), (6, some 0), (7, some 0), (8, some 0), (9, some 0), (10, some 0), (11, some 0), (12, some 0), (13, some 0), (14, some 0), (16, some 0), (17, some 0), (18, some 0), (19, some 0), (20, some 0), (21, some 0), (15, none), (22, none), (23, none), (24, none), (25, none), (26, none), (27, none), (28, none)] q (by kernel_rfl) (by kernel_rfl) q ?_; clear s; intro wr hZ s; have hR := s.wd
  refine S s<|qw hR q (mo · q)<|qw hR q (fun s => yl_b (y_eql s q q) i0)<|qw hR q (mo · q)<|qpw hR q<|qpw hR q<|qpw hR q<|qpw hR q<|qpw hR q<|qpw hR q<|qpw hR q<|qpw hR q<|qw hR q (pT · q q)<|qw hR q (mo · q) fun a s => ?_
  refine qg s hR q (mo s q) fun a s => ?_
  refine qg s hR q (mo s q) fun a s => ?_
  refine qg s hR q (mo s q) fun a s => ?_
  refine qg s hR q (mo s q) fun a s => ?_
  refine qg s hR q (lS s q u22) fun a s => ?_
  have P5 := SlR.mx (s.ft 101 q)
  refine qg s hR q (y_sub s q q (in64.2 (by omega))) fun a s => ?_
  have z1 := (s.ft 101 q).cap
  refine qg s hR q (y_cutH (xs := t_) (sz := 10) (i := (((((t_).length : Nat) : Int) - 1).toNat)) s q q u22 q (by omega) a0 z1) fun a s => ?_
  replace s := s.add 188 (slF RModule (b0) (((t_).take (((((t_).length : Nat) : Int) - 1).toNat)).length) (c0) ((t_).take (((((t_).length : Nat) : Int) - 1).toNat))) (SlR.cutH (s.ft 101 q) (((((t_).length : Nat) : Int) - 1).toNat) a0)
  refine qg s hR q (mo s q) fun a s => ?_
  refine l_take s q ⟨_, _, _, q, q, q, q⟩ (l_call (cap := []) s q func15 q (by kernel_rfl) q q (c_module_Visible n _ _ s.lt _ _ _ (s.ft 101 q) _ (by omega) _ G0) fun a7 a w hK hp s => ?_)
  refine gz hZ hK fun hZ => ?_; clear hK
  obtain ⟨y4, D5, rfl, t3⟩ := hp
  replace s := s.ns 189 t3
  refine l_take s q ⟨_, _, _, q, q, q, q⟩ (l_call (cap := []) s q func15 q (by kernel_rfl) q q (c_module_Visible n _ _ s.lt _ _ _ (s.ft 188 q) _ (by omega) _ H0) fun b7 a w hK hp s => ?_)
  refine gz hZ hK fun hZ => ?_; clear hK
  obtain ⟨z4, E5, rfl, v3⟩ := hp
  replace s := s.ns 190 v3
  refine l_take s q ⟨_, _, _, q, q, q, q⟩ (l_call (cap := []) s q func14 q (by kernel_rfl) q q (c_r01_Same n _ _ s.lt _ _ _ (s.ft 189 q) _ _ _ (s.ft 190 q) _ I0) fun c7 a w hK hp s => ?_)
  refine gz hZ hK fun hZ => ?_; clear hK
  obtain rfl := hp.trans (congrArg Value.bool r0)
  refine S s<|tw q (pT · q q)<|tw q (mo · q) fun a s => ?_
  refine l_pass s q ⟨_, _, _, q, q, q, q⟩ q q fun a s => ?_
  refine S s<|tw q (pO · q q)<|tw q (y_assign · q) fun a s => ?_
  clear hR hZ
  apply pN
  apply wp_ret
  obtain rfl := si hg
  exact fin1 (fn := Tryz.f9) s q (r_tmp s q) q
 have i0 := decide_eq_false q0
 replace hg := br_f hg q0
 rcases Decidable.em (d0.2 = e0.2) with o0 | o0
 ·have p0 := decide_eq_true o0
  replace hg := br_t hg o0
  obtain ⟨w3, v0, hg⟩ := bind_some hg
  rcases Bool.eq_false_or_eq_true (w3) with m0 | m0
  ·replace hg := br_t hg m0
   obtain ⟨b6, j0, hg⟩ := bind_some hg
   obtain ⟨c6, k0, hg⟩ := bind_some hg
   obtain ⟨x3, l0, hg⟩ := bind_some hg
   rcases Bool.eq_false_or_eq_true (x3) with g0 | g0
   ·replace hg := br_t hg g0
    obtain ⟨d6, x0, hg⟩ := bind_some hg
    refine d_steps s [] q ?_; clear s; intro wr hZ s; have hR := s.wd; have hE := Ext.init hR 0
    refine S s<|nqw 0 0 hR q (mo · q)<|nqw 1 0 hR q (fun s => yl_b (y_eql s q q) i0)<|nqw 2 0 hR q (mo · q)<|nqw 3 0 hR q (mo · q)<|nqw 4 0 hR q (mo · q)<|nqw 5 0 hR q (fun s => yl_b (y_eql s q q) p0)<|nqw 6 0 hR q (mo · q)<|nqw 7 1306 hR q (y_loadAll (kk := 1306) · q q u38 q q)<|nqw 8 1410 hR q (y_loadAll (kk := 1410) · q q u38 q q) fun a s => ?_
    refine nC 9 s q q func19 (c_r21_SameModule n _ _ s.lt _ _ _ _ _ _ _ _ _ _ _ _ _ _ _ _ _ _ _ (by omega) (s.ft 151 q) (s.ft 152 q) (s.ft 153 q) (s.ft 154 q) (s.ft 155 q) (s.ft 156 q) (s.ft 157 q) (s.ft 158 q) (s.ft 159 q) _ _ _ _ _ _ _ _ _ _ _ _ _ _ _ _ _ _ _ (by omega) (s.ft 171 q) (s.ft 172 q) (s.ft 173 q) (s.ft 174 q) (s.ft 175 q) (s.ft 176 q) (s.ft 177 q) (s.ft 178 q) (s.ft 179 q) _ v0) fun l6 a w hK hp s => ?_
    refine gk hE hZ hK fun hE hZ => ?_; clear hK
    obtain rfl := hp.trans (congrArg Value.bool m0)
    refine S s<|nzw 10 q (pT · q q)<|nzw 11 q (pO · q q)<|nzw 12 q (mo · q)<|new 13 hE q (fun w' s => y_move s q)<|new 14 hE q (fun w' s => y_move s q)<|new 16 hE q (fun w' s => y_move s q)<|new 17 hE q (fun w' s => y_move s q)<|new 21 hE q (fun w' s => y_move s q) fun a s => ?_
    refine n_2 15 18 s (by kernel_rfl) q ⟨_, _, _, q, q, q, q⟩ q ⟨_, _, _, q, q, q, q⟩ ?_ ?_
    ·refine l_call (cap := []) s q func15 q (by kernel_rfl) q q (c_module_Visible n _ _ s.lt _ _ _ (s.ft 101 q) _ (by omega) _ j0) fun m6 a w hK hp s => ?_
     refine gk hE hZ hK fun hE hZ => ?_; clear hK
     obtain ⟨e4, k5, rfl, F2⟩ := hp
     refine S s<|nsw 194 F2<|nzw 18 q (lS · q u22) fun a s => ?_
     have G5 := SlR.mx (s.ft 101 q)
     refine S s<|nzw 19 q (y_sub · q q (in64.2 (by omega))) fun a s => ?_
     have B1 := (s.ft 101 q).cap
     refine S s<|nzw 20 q (y_cutH (xs := t_) (sz := 10) (i := (((((t_).length : Nat) : Int) - 1).toNat)) · q q u22 q (by omega) a0 B1) fun a s => ?_
     replace s := s.add 195 (slF RModule (b0) (((t_).take (((((t_).length : Nat) : Int) - 1).toNat)).length) (c0) ((t_).take (((((t_).length : Nat) : Int) - 1).toNat))) (SlR.cutH (s.ft 101 q) (((((t_).length : Nat) : Int) - 1).toNat) a0)
     refine nC 22 s q q func15 (c_module_Visible n _ _ s.lt _ _ _ (s.ft 195 q) _ (by omega) _ k0) fun n6 a w hK hp s => ?_
     refine gk hE hZ hK fun hE hZ => ?_; clear hK
     obtain ⟨g4, l5, rfl, G2⟩ := hp
     replace s := s.ns 196 G2
     refine nC 23 s q q func14 (c_r01_Same n _ _ s.lt _ _ _ (s.ft 194 q) _ _ _ (s.ft 196 q) _ l0) fun o6 a w hK hp s => ?_
     refine gk hE hZ hK fun hE hZ => ?_; clear hK
     obtain rfl := hp.trans (congrArg Value.bool g0)
     refine S s<|nzw 24 q (pT · q q)<|nzw 25 q (mo · q) fun a s => ?_
     refine nC 26 s q q func11 (c_law22_exampleHolds n _ _ s.lt  _ x0) fun p6 a w hK hp s => ?_
     refine gk hE hZ hK fun hE hZ => ?_; clear hK
     obtain rfl := hp
     refine S s<|nzw 27 q (pT · q q)<|nzw 28 q (y_assign · q) fun a s => ?_
     refine n_end (by kernel_rfl) ?_; clear hR hZ hE
     apply pN
     apply wp_ret
     obtain rfl := si hg
     exact fin1 (fn := Tryz.f9) s q (r_tmp s q) q
    ·refine l_quiet s q q (lS s q u22) fun a s => ?_; refine ⟨fun g _ h => h, ?_⟩
     have H5 := SlR.mx (s.ft 101 q)
     refine S s<|new 19 hE q (fun w' s => y_sub s q q (in64.2 (by omega))) fun a s => ?_
     refine n_2 15 20 s (by kernel_rfl) q ⟨_, _, _, q, q, q, q⟩ q ⟨_, _, _, q, q, q, q⟩ ?_ ?_
     ·refine l_call (cap := []) s q func15 q (by kernel_rfl) q q (c_module_Visible n _ _ s.lt _ _ _ (s.ft 101 q) _ (by omega) _ j0) fun q6 a w hK hp s => ?_
      refine gk hE hZ hK fun hE hZ => ?_; clear hK
      obtain ⟨h4, m5, rfl, H2⟩ := hp
      replace s := s.ns 197 H2
      have C1 := (s.ft 101 q).cap
      refine S s<|nzw 20 q (y_cutH (xs := t_) (sz := 10) (i := (((((t_).length : Nat) : Int) - 1).toNat)) · q q u22 q (by omega) a0 C1) fun a s => ?_
      replace s := s.add 198 (slF RModule (b0) (((t_).take (((((t_).length : Nat) : Int) - 1).toNat)).length) (c0) ((t_).take (((((t_).length : Nat) : Int) - 1).toNat))) (SlR.cutH (s.ft 101 q) (((((t_).length : Nat) : Int) - 1).toNat) a0)
      refine nC 22 s q q func15 (c_module_Visible n _ _ s.lt _ _ _ (s.ft 198 q) _ (by omega) _ k0) fun r6 a w hK hp s => ?_
      refine gk hE hZ hK fun hE hZ => ?_; clear hK
      obtain ⟨i4, n5, rfl, I2⟩ := hp
      replace s := s.ns 199 I2
      refine nC 23 s q q func14 (c_r01_Same n _ _ s.lt _ _ _ (s.ft 197 q) _ _ _ (s.ft 199 q) _ l0) fun s6 a w hK hp s => ?_
      refine gk hE hZ hK fun hE hZ => ?_; clear hK
      obtain rfl := hp.trans (congrArg Value.bool g0)
      refine S s<|nzw 24 q (pT · q q)<|nzw 25 q (mo · q) fun a s => ?_
      refine nC 26 s q q func11 (c_law22_exampleHolds n _ _ s.lt  _ x0) fun t6 a w hK hp s => ?_
      refine gk hE hZ hK fun hE hZ => ?_; clear hK
      obtain rfl := hp
      refine S s<|nzw 27 q (pT · q q)<|nzw 28 q (y_assign · q) fun a s => ?_
      refine n_end (by kernel_rfl) ?_; clear hR hZ hE
      apply pN
      apply wp_ret
      obtain rfl := si hg
      exact fin1 (fn := Tryz.f9) s q (r_tmp s q) q
     ·have D1 := (s.ft 101 q).cap
      refine l_quiet s q q (y_cutH (xs := t_) (sz := 10) (i := (((((t_).length : Nat) : Int) - 1).toNat)) s q q u22 q (by omega) a0 D1) fun a s => ?_; refine ⟨fun g _ h => h, ?_⟩
      replace s := s.add 200 (slF RModule (b0) (((t_).take (((((t_).length : Nat) : Int) - 1).toNat)).length) (c0) ((t_).take (((((t_).length : Nat) : Int) - 1).toNat))) (SlR.cutH (s.ft 101 q) (((((t_).length : Nat) : Int) - 1).toNat) a0)
      refine nC 15 s q q func15 (c_module_Visible n _ _ s.lt _ _ _ (s.ft 101 q) _ (by omega) _ j0) fun u6 a w hK hp s => ?_
      refine gk hE hZ hK fun hE hZ => ?_; clear hK
      obtain ⟨j4, o5, rfl, J2⟩ := hp
      replace s := s.ns 201 J2
      refine nC 22 s q q func15 (c_module_Visible n _ _ s.lt _ _ _ (s.ft 200 q) _ (by omega) _ k0) fun v6 a w hK hp s => ?_
      refine gk hE hZ hK fun hE hZ => ?_; clear hK
      obtain ⟨k4, p5, rfl, K2⟩ := hp
      replace s := s.ns 202 K2
      refine nC 23 s q q func14 (c_r01_Same n _ _ s.lt _ _ _ (s.ft 201 q) _ _ _ (s.ft 202 q) _ l0) fun w6 a w hK hp s => ?_
      refine gk hE hZ hK fun hE hZ => ?_; clear hK
      obtain rfl := hp.trans (congrArg Value.bool g0)
      refine S s<|nzw 24 q (pT · q q)<|nzw 25 q (mo · q) fun a s => ?_
      refine nC 26 s q q func11 (c_law22_exampleHolds n _ _ s.lt  _ x0) fun x6 a w hK hp s => ?_
      refine gk hE hZ hK fun hE hZ => ?_; clear hK
      obtain rfl := hp
      refine S s<|nzw 27 q (pT · q q)<|nzw 28 q (y_assign · q) fun a s => ?_
      refine n_end (by kernel_rfl) ?_; clear hR hZ hE
      apply pN
      apply wp_ret
      obtain rfl := si hg
      exact fin1 (fn := Tryz.f9) s q (r_tmp s q) q
   replace hg := br_n hg g0
   refine d_steps s [] q ?_; clear s; intro wr hZ s; have hR := s.wd; have hE := Ext.init hR 0
   refine S s<|nqw 0 0 hR q (mo · q)<|nqw 1 0 hR q (fun s => yl_b (y_eql s q q) i0)<|nqw 2 0 hR q (mo · q)<|nqw 3 0 hR q (mo · q)<|nqw 4 0 hR q (mo · q)<|nqw 5 0 hR q (fun s => yl_b (y_eql s q q) p0)<|nqw 6 0 hR q (mo · q)<|nqw 7 1306 hR q (y_loadAll (kk := 1306) · q q u38 q q)<|nqw 8 1410 hR q (y_loadAll (kk := 1410) · q q u38 q q) fun a s => ?_
   refine nC 9 s q q func19 (c_r21_SameModule n _ _ s.lt _ _ _ _ _ _ _ _ _ _ _ _ _ _ _ _ _ _ _ (by omega) (s.ft 151 q) (s.ft 152 q) (s.ft 153 q) (s.ft 154 q) (s.ft 155 q) (s.ft 156 q) (s.ft 157 q) (s.ft 158 q) (s.ft 159 q) _ _ _ _ _ _ _ _ _ _ _ _ _ _ _ _ _ _ _ (by omega) (s.ft 171 q) (s.ft 172 q) (s.ft 173 q) (s.ft 174 q) (s.ft 175 q) (s.ft 176 q) (s.ft 177 q) (s.ft 178 q) (s.ft 179 q) _ v0) fun y6 a w hK hp s => ?_
   refine gk hE hZ hK fun hE hZ => ?_; clear hK
   obtain rfl := hp.trans (congrArg Value.bool m0)
   refine S s<|nzw 10 q (pT · q q)<|nzw 11 q (pO · q q)<|nzw 12 q (mo · q)<|new 13 hE q (fun w' s => y_move s q)<|new 14 hE q (fun w' s => y_move s q)<|new 16 hE q (fun w' s => y_move s q)<|new 17 hE q (fun w' s => y_move s q)<|new 21 hE q (fun w' s => y_move s q) fun a s => ?_
   refine n_2 15 18 s (by kernel_rfl) q ⟨_, _, _, q, q, q, q⟩ q ⟨_, _, _, q, q, q, q⟩ ?_ ?_
   ·refine l_call (cap := []) s q func15 q (by kernel_rfl) q q (c_module_Visible n _ _ s.lt _ _ _ (s.ft 101 q) _ (by omega) _ j0) fun z6 a w hK hp s => ?_
    refine gk hE hZ hK fun hE hZ => ?_; clear hK
    obtain ⟨l4, q5, rfl, L2⟩ := hp
    refine S s<|nsw 203 L2<|nzw 18 q (lS · q u22) fun a s => ?_
    have I5 := SlR.mx (s.ft 101 q)
    refine S s<|nzw 19 q (y_sub · q q (in64.2 (by omega))) fun a s => ?_
    have E1 := (s.ft 101 q).cap
    refine S s<|nzw 20 q (y_cutH (xs := t_) (sz := 10) (i := (((((t_).length : Nat) : Int) - 1).toNat)) · q q u22 q (by omega) a0 E1) fun a s => ?_
    replace s := s.add 204 (slF RModule (b0) (((t_).take (((((t_).length : Nat) : Int) - 1).toNat)).length) (c0) ((t_).take (((((t_).length : Nat) : Int) - 1).toNat))) (SlR.cutH (s.ft 101 q) (((((t_).length : Nat) : Int) - 1).toNat) a0)
    refine nC 22 s q q func15 (c_module_Visible n _ _ s.lt _ _ _ (s.ft 204 q) _ (by omega) _ k0) fun B6 a w hK hp s => ?_
    refine gk hE hZ hK fun hE hZ => ?_; clear hK
    obtain ⟨m4, r5, rfl, M2⟩ := hp
    replace s := s.ns 205 M2
    refine nC 23 s q q func14 (c_r01_Same n _ _ s.lt _ _ _ (s.ft 203 q) _ _ _ (s.ft 205 q) _ l0) fun C6 a w hK hp s => ?_
    refine gk hE hZ hK fun hE hZ => ?_; clear hK
    obtain rfl := hp.trans (congrArg Value.bool g0)
    refine S s<|nzw 24 q (pT · q q)<|nzw 25 q (mo · q)<|npw 26 q<|nzw 27 q (pO · q q)<|nzw 28 q (y_assign · q) fun a s => ?_
    refine n_end (by kernel_rfl) ?_; clear hR hZ hE
    apply pN
    apply wp_ret
    obtain rfl := si hg
    exact fin1 (fn := Tryz.f9) s q (r_tmp s q) q
   ·refine l_quiet s q q (lS s q u22) fun a s => ?_; refine ⟨fun g _ h => h, ?_⟩
    have J5 := SlR.mx (s.ft 101 q)
    refine S s<|new 19 hE q (fun w' s => y_sub s q q (in64.2 (by omega))) fun a s => ?_
    refine n_2 15 20 s (by kernel_rfl) q ⟨_, _, _, q, q, q, q⟩ q ⟨_, _, _, q, q, q, q⟩ ?_ ?_
    ·refine l_call (cap := []) s q func15 q (by kernel_rfl) q q (c_module_Visible n _ _ s.lt _ _ _ (s.ft 101 q) _ (by omega) _ j0) fun D6 a w hK hp s => ?_
     refine gk hE hZ hK fun hE hZ => ?_; clear hK
     obtain ⟨n4, s5, rfl, O2⟩ := hp
     replace s := s.ns 206 O2
     have F1 := (s.ft 101 q).cap
     refine S s<|nzw 20 q (y_cutH (xs := t_) (sz := 10) (i := (((((t_).length : Nat) : Int) - 1).toNat)) · q q u22 q (by omega) a0 F1) fun a s => ?_
     replace s := s.add 207 (slF RModule (b0) (((t_).take (((((t_).length : Nat) : Int) - 1).toNat)).length) (c0) ((t_).take (((((t_).length : Nat) : Int) - 1).toNat))) (SlR.cutH (s.ft 101 q) (((((t_).length : Nat) : Int) - 1).toNat) a0)
     refine nC 22 s q q func15 (c_module_Visible n _ _ s.lt _ _ _ (s.ft 207 q) _ (by omega) _ k0) fun E6 a w hK hp s => ?_
     refine gk hE hZ hK fun hE hZ => ?_; clear hK
     obtain ⟨o4, t5, rfl, P2⟩ := hp
     replace s := s.ns 208 P2
     refine nC 23 s q q func14 (c_r01_Same n _ _ s.lt _ _ _ (s.ft 206 q) _ _ _ (s.ft 208 q) _ l0) fun F6 a w hK hp s => ?_
     refine gk hE hZ hK fun hE hZ => ?_; clear hK
     obtain rfl := hp.trans (congrArg Value.bool g0)
     refine S s<|nzw 24 q (pT · q q)<|nzw 25 q (mo · q)<|npw 26 q<|nzw 27 q (pO · q q)<|nzw 28 q (y_assign · q) fun a s => ?_
     refine n_end (by kernel_rfl) ?_; clear hR hZ hE
     apply pN
     apply wp_ret
     obtain rfl := si hg
     exact fin1 (fn := Tryz.f9) s q (r_tmp s q) q
    ·have G1 := (s.ft 101 q).cap
     refine l_quiet s q q (y_cutH (xs := t_) (sz := 10) (i := (((((t_).length : Nat) : Int) - 1).toNat)) s q q u22 q (by omega) a0 G1) fun a s => ?_; refine ⟨fun g _ h => h, ?_⟩
     replace s := s.add 209 (slF RModule (b0) (((t_).take (((((t_).length : Nat) : Int) - 1).toNat)).length) (c0) ((t_).take (((((t_).length : Nat) : Int) - 1).toNat))) (SlR.cutH (s.ft 101 q) (((((t_).length : Nat) : Int) - 1).toNat) a0)
     refine nC 15 s q q func15 (c_module_Visible n _ _ s.lt _ _ _ (s.ft 101 q) _ (by omega) _ j0) fun G6 a w hK hp s => ?_
     refine gk hE hZ hK fun hE hZ => ?_; clear hK
     obtain ⟨p4, u5, rfl, Q2⟩ := hp
     replace s := s.ns 210 Q2
     refine nC 22 s q q func15 (c_module_Visible n _ _ s.lt _ _ _ (s.ft 209 q) _ (by omega) _ k0) fun H6 a w hK hp s => ?_
     refine gk hE hZ hK fun hE hZ => ?_; clear hK
     obtain ⟨q4, v5, rfl, R2⟩ := hp
     replace s := s.ns 211 R2
     refine nC 23 s q q func14 (c_r01_Same n _ _ s.lt _ _ _ (s.ft 210 q) _ _ _ (s.ft 211 q) _ l0) fun I6 a w hK hp s => ?_
     refine gk hE hZ hK fun hE hZ => ?_; clear hK
     obtain rfl := hp.trans (congrArg Value.bool g0)
     refine S s<|nzw 24 q (pT · q q)<|nzw 25 q (mo · q)<|npw 26 q<|nzw 27 q (pO · q q)<|nzw 28 q (y_assign · q) fun a s => ?_
     refine n_end (by kernel_rfl) ?_; clear hR hZ hE
     apply pN
     apply wp_ret
     obtain rfl := si hg
     exact fin1 (fn := Tryz.f9) s q (r_tmp s q) q
  replace hg := br_n hg m0
  refine d_steps s [] q ?_; clear s; intro wr hZ s; have hR := s.wd; have hE := Ext.init hR 0
  refine S s<|nqw 0 0 hR q (mo · q)<|nqw 1 0 hR q (fun s => yl_b (y_eql s q q) i0)<|nqw 2 0 hR q (mo · q)<|nqw 3 0 hR q (mo · q)<|nqw 4 0 hR q (mo · q)<|nqw 5 0 hR q (fun s => yl_b (y_eql s q q) p0)<|nqw 6 0 hR q (mo · q)<|nqw 7 1306 hR q (y_loadAll (kk := 1306) · q q u38 q q)<|nqw 8 1410 hR q (y_loadAll (kk := 1410) · q q u38 q q) fun a s => ?_
  refine nC 9 s q q func19 (c_r21_SameModule n _ _ s.lt _ _ _ _ _ _ _ _ _ _ _ _ _ _ _ _ _ _ _ (by omega) (s.ft 151 q) (s.ft 152 q) (s.ft 153 q) (s.ft 154 q) (s.ft 155 q) (s.ft 156 q) (s.ft 157 q) (s.ft 158 q) (s.ft 159 q) _ _ _ _ _ _ _ _ _ _ _ _ _ _ _ _ _ _ _ (by omega) (s.ft 171 q) (s.ft 172 q) (s.ft 173 q) (s.ft 174 q) (s.ft 175 q) (s.ft 176 q) (s.ft 177 q) (s.ft 178 q) (s.ft 179 q) _ v0) fun J6 a w hK hp s => ?_
  refine gk hE hZ hK fun hE hZ => ?_; clear hK
  obtain rfl := hp.trans (congrArg Value.bool m0)
  refine S s<|nzw 10 q (pT · q q)<|nzw 11 q (pO · q q)<|nzw 12 q (mo · q)<|nfw 13 hE q<|nfw 14 hE q<|nfw 15 hE q<|nfw 16 hE q<|nfw 17 hE q<|nfw 18 hE q<|nfw 19 hE q<|nfw 20 hE q<|npw 21 q<|npw 22 q<|npw 23 q<|nzw 24 q (pO · q q)<|nzw 25 q (mo · q)<|npw 26 q<|nzw 27 q (pO · q q)<|nzw 28 q (y_assign · q) fun a s => ?_
  refine n_end (by kernel_rfl) ?_; clear hR hZ hE
  apply pN
  apply wp_ret
  obtain rfl := si hg
  exact fin1 (fn := Tryz.f9) s q (r_tmp s q) q
 have p0 := decide_eq_false o0
 replace hg := br_f hg o0
 refine d_plan s [] [(0, some 0), (1, some 0), (2, some 0), (3, some 0), (4, some 0), (5, some 0), (6, some 0), (7, some 0), (8, some 0), (9, some 0), (10, some 0), (11, some 0), (12, some 0), (13, some 0), (14, some 0), (15, some 0), (16, some 0), (17, some 0), (18, some 0), (19, some 0), (20, some 0), (21, some 0), (22, some 0), (23, some 0), (24, some 0), (25, some 0), (26, some 0), (27, some 0), (28, some 0)] q (by kernel_rfl) (by kernel_rfl) q ?_; clear s; intro wr hZ s; have hR := s.wd
 refine S s<|qw hR q (mo · q)<|qw hR q (fun s => yl_b (y_eql s q q) i0)<|qw hR q (mo · q) fun a s => ?_
 refine qg s hR q (mo s q) fun a s => ?_
 refine qg s hR q (mo s q) fun a s => ?_
 refine qg s hR q (yl_b (y_eql s q q) p0) fun a s => ?_
 refine qg s hR q (mo s q) fun a s => ?_
 refine S s<|qpw hR q<|qpw hR q<|qpw hR q fun a s => ?_
 refine qg s hR q (pO s q q) fun a s => ?_
 refine S s<|qw hR q (pO · q q)<|qw hR q (mo · q)<|qpw hR q<|qpw hR q<|qpw hR q<|qpw hR q<|qpw hR q<|qpw hR q<|qpw hR q<|qpw hR q<|qpw hR q<|qpw hR q<|qpw hR q<|qw hR q (pO · q q)<|qw hR q (mo · q)<|qpw hR q<|qw hR q (pO · q q)<|qw hR q (y_assign · q) fun a s => ?_
 clear hR hZ
 apply pN
 apply wp_ret
 obtain rfl := si hg
 exact fin1 (fn := Tryz.f9) s q (r_tmp s q) q
end Go.Proofs.YtbhjplflnkidgaaGreat

