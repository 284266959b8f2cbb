/- Chapter 22: the walks, part 1 -/
import Derived.Test.YtbhjplflnkidgaaGreatAU
import Derived.Test.YtbhjplflnkidgaaGreatA2
namespace Go.Proofs.YtbhjplflnkidgaaGreat
open Go.Gl Go.RowKit Tryz
set_option linter.unusedVariables false
set_option linter.unusedSimpArgs false
set_option maxRecDepth 4000
set_option maxHeartbeats 1000000
theorem c_r21_count (n : Nat) (M : Bs) (w0 : World) (hM : bM M w0) (m_ : Module) (b0 : OA) (l0 : Nat) (c0 : OA) (m0 : Nat) (d0 : OA) (n0 : Nat) (e0 : OA) (o0 : Nat) (g0 : OA) (p0 : Nat) (h0 : OA) (q0 : Nat) (i0 : OA) (r0 : Nat) (j0 : OA) (s0 : Nat) (a0 : OA) (k0 : Nat) (E0 : (m_.Name).length ≤ 9223372036854775807) (u0 : sR Rep.str M w0 b0 l0 m_.Imports) (v0 : sR RTypeDecl M w0 c0 m0 m_.Types) (x0 : sR RDef M w0 d0 n0 m_.Templates) (y0 : sR REntryDecl M w0 e0 o0 m_.Entries) (z0 : sR RLexDecl M w0 g0 p0 m_.LexRules) (B0 : sR RDef M w0 h0 q0 m_.Rules) (C0 : sR RDef M w0 i0 r0 m_.Roots) (D0 : sR (Rep.list Rep.str) M w0 j0 s0 m_.Checks) (t0 : sR Rep.str M w0 a0 k0 m_.Drops) (r : Int) (hg : r21_count n m_ = some r) :
    CA Tryz.prog 52 [.agg #[vT m_.Name, sl b0 m_.Imports l0, sl c0 m_.Types m0, sl d0 m_.Templates n0, sl e0 m_.Entries o0, sl g0 m_.LexRules p0, sl h0 m_.Rules q0, sl i0 m_.Roots r0, sl j0 m_.Checks s0, sl a0 m_.Drops k0]] w0 (fun v w => v = .int .i64 (r)) := by
 unfold r21_count at hg
 refine enter M noB func52 q q hM ?_
 intro a s
 refine S s<|esw 101 u0<|esw 102 v0<|esw 103 x0<|esw 104 y0<|esw 105 z0<|esw 106 B0<|esw 107 C0<|esw 108 D0<|esw 109 t0<|vw fun a s => ?_
 refine l_seq q (l_box (zs := [vT m_.Name, sl b0 m_.Imports l0, sl c0 m_.Types m0, sl d0 m_.Templates n0, sl e0 m_.Entries o0, sl g0 m_.LexRules p0, sl h0 m_.Rules q0, sl i0 m_.Roots r0, sl j0 m_.Checks s0, sl a0 m_.Drops k0]) s 1000 q q q q fun b2 a w hb hK s => ?_)
 refine S s<|aw q<|nw<|vw<|yw q (bF 2 · u38 q)<|yw q (lB 1000 · u32 q)<|yw q (lS · q u32)<|yw q (bF 3 · u38 q)<|yw q (lB 1000 · u33 q)<|yw q (lS · q u33)<|yw q (y_wadd · q q)<|yw q (bF 4 · u38 q)<|yw q (lB 1000 · u34 q)<|yw q (lS · q u34)<|yw q (y_wadd · q q)<|yw q (bF 5 · u38 q)<|yw q (lB 1000 · u35 q)<|yw q (lS · q u35)<|yw q (y_wadd · q q)<|yw q (bF 6 · u38 q)<|yw q (lB 1000 · u33 q)<|yw q (lS · q u33)<|yw q (y_wadd · q q)<|yw q (bF 7 · u38 q)<|yw q (lB 1000 · u33 q)<|yw q (lS · q u33)<|yw q (y_wadd · q q)<|yw q (bF 8 · u38 q)<|yw q (lB 1000 · u36 q)<|yw q (lS · q u36)<|yw q (y_wadd · q q)<|aw q<|nw fun a s => ?_
 apply wp_ret
 obtain rfl := si hg
 exact fT f52 s q q q
theorem c_r21_lightNames (n : Nat) (M : Bs) (w0 : World) (hM : bM M w0) (l_ : (List (List UInt8))) (b0 : OA) (c0 : Nat) (n0 : sR Rep.str M w0 b0 c0 l_) (most_ : Int) (r : Bool) (hg : r21_lightNames n l_ most_ = some r) :
    CA Tryz.prog 73 [sl b0 l_ c0, .int .i64 (most_)] w0 (fun v w => v = .bool (r)) := by
 unfold r21_lightNames at hg
 refine enter M noB func73 q q hM ?_
 intro a s
 refine S s<|esw 101 n0<|vw<|aw q<|nw<|sw<|vw<|mw q<|yw q (lS · q u25)<|mw q<|yw q (y_gtr · q q)<|nw fun a s => c_dec s q (fun d0 => ?_) (fun d0 => ?_)
 ·replace hg := br_t hg d0
  refine S s<|vw<|aw q<|nw fun a s => ?_
  apply wp_ret
  refine p_thenR ?_
  obtain rfl := si hg
  exact fT f73 s q q q
 replace hg := br_f hg d0
 refine S s<|kw<|pw<|sw<|vw<|aw q<|nw<|bw fun a s => ?_
 refine c_loop (σ := Nat) (fun m1 a w => ∃ (a0 : Nat), r21_lightNames_L0 n l_ m1 a0 = some r ∧ St (cx f73 M w0) [(0, sl b0 l_ c0), (5, vI (((a0 : Nat) : Int)))] [] [(101, sF Rep.str b0 c0 l_)] a w) (fun m1 => m1) n ⟨(0), hg, (s.sb q q q)⟩ ?_
 clear s a; rintro m1 a w ⟨a0, hg, s⟩
 rcases m1 with _ | m1
 ·rw [r21_lightNames_L0] at hg; cases hg
 rw [r21_lightNames_L0] at hg
 refine S s<|sw<|vw<|mw q<|mw q<|yw q (lS · q u25)<|yw q (y_lssN (i := a0) (j := ((l_).length)) · q q)<|nw fun a s => c_dec s q (fun g0 => ?_) (fun g0 => ?_)
 ·replace hg := br_t hg g0
  have q0 := SlR.mx (s.ft 101 q)
  obtain ⟨x6, h0, hg⟩ := zB hg
  refine S s<|kw<|pw<|sw<|bw<|sw<|lw<|mw q<|mw q fun a s => ?_
  obtain ⟨p8, k0, l0, m0, o0, j0, i0⟩ := SlR.elemX (s.ft 101 q) h0
  refine qq s q (eL 1 a0 s u25 k0 (lt_of_get h0) q) fun a s => ?_
  obtain ⟨rfl, r0⟩ := j0
  refine S s<|yw q (lP · l0 m0 (i0 0 _ q) u9 q)<|yw q (y_lenStrN · q u9)<|yw q (y_gtrN (i := ((x6).length)) (j := 100) · q q)<|nw fun a s => c_dec s q (fun e0 => ?_) (fun e0 => ?_)
  ·replace hg := br_t hg e0
   have p0 : (x6).length ≤ 9223372036854775807 := (by omega)
   refine S s<|vw<|aw q<|nw fun a s => ?_
   apply wp_ret
   refine p_inR ?_
   refine p_thenR ?_
   refine p_thenR ?_
   refine p_inR ?_
   refine p_thenR ?_
   obtain rfl := si hg
   exact fT f73 s q q q
  replace hg := br_f hg e0
  apply wp_skip
  refine p_inN ?_
  refine S s<|pw<|lw<|mw q<|yw q (y_addN (i := a0) (j := 1) · q q (in64.2 (by omega)))<|aw q<|nw fun a s => ?_
  exact ⟨m1, Nat.lt_succ_self _, ⟨(a0 + 1), hg, (s.sb q q q)⟩⟩
 replace hg := br_f hg g0
 apply wp_exit
 refine p_then ?_
 refine p_then ?_
 refine p_in ?_
 refine S s<|pw<|vw<|aw q<|nw fun a s => ?_
 apply wp_ret
 obtain rfl := si hg
 exact fT f73 s q q q
theorem c_r21_lightTypes (n : Nat) (M : Bs) (w0 : World) (hM : bM M w0) (t_ : (List TypeDecl)) (b0 : OA) (c0 : Nat) (T1 : sR RTypeDecl M w0 b0 c0 t_) (r : Bool) (hg : r21_lightTypes n t_ = some r) :
    CA Tryz.prog 74 [sl b0 t_ c0] w0 (fun v w => v = .bool (r)) := by
 unfold r21_lightTypes at hg
 refine enter M noB func74 q q hM ?_
 intro a s
 refine S s<|esw 101 T1<|vw<|aw q<|nw<|sw<|vw<|aw q<|nw<|bw fun a s => ?_
 refine c_loop (σ := Nat) (fun m1 a w => ∃ (a0 : Nat), r21_lightTypes_L0 n t_ m1 a0 = some r ∧ St (cx f74 M w0) [(0, sl b0 t_ c0), (3, vI (((a0 : Nat) : Int)))] [] [(101, sF RTypeDecl b0 c0 t_)] a w) (fun m1 => m1) n ⟨(0), hg, (s.sb q q q)⟩ ?_
 clear s a; rintro m1 a w ⟨a0, hg, s⟩
 rcases m1 with _ | m1
 ·rw [r21_lightTypes_L0] at hg; cases hg
 rw [r21_lightTypes_L0] at hg
 refine S s<|sw<|vw<|mw q<|mw q<|yw q (lS · q u32)<|yw q (y_lssN (i := a0) (j := ((t_).length)) · q q)<|nw fun a s => c_dec s q (fun n0 => ?_) (fun n0 => ?_)
 ·replace hg := br_t hg n0
  have B3 := SlR.mx (s.ft 101 q)
  apply wp_skip
  apply pN
  apply wQ
  obtain ⟨k4, hg, o1⟩ := zJ hg
  refine c_post (fun a w => k4 = some r ∧ St (cx f74 M w0) [(0, sl b0 t_ c0), (3, vI (((a0 : Nat) : Int)))] [] [(101, sF RTypeDecl b0 c0 t_)] a w) ?_ ?_
  ·apply wp_block
   apply wQ
   apply wQ
   obtain ⟨k5, hg, q1⟩ := zJ hg
   refine c_post (fun a w => ∃ (t0 : Bool), k5 t0 = some r ∧ St (cx f74 M w0) [(0, sl b0 t_ c0), (3, vI (((a0 : Nat) : Int))), (35, .bool (t0))] [] [(101, sF RTypeDecl b0 c0 t_)] a w) ?_ ?_
   ·obtain ⟨x8, d0, hg⟩ := zB hg
    rcases Decidable.em ((100 : Nat) < ((x8.Name).length)) with i0 | i0
    ·have m0 := decide_eq_true i0
     replace hg := br_t hg i0
     refine S s<|lw<|mw q<|mw q fun a s => ?_
     obtain ⟨U3, Z0, r1, F1, m3, K0, v0⟩ := SlR.elemX (s.ft 101 q) d0
     refine S s<|yw q (eL 3 a0 · u32 Z0 (lt_of_get d0) q)<|yw q (pF 0 · u49 q) fun a s => ?_
     obtain ⟨u2, Q2, v2, R2, rfl, D3, U1, V1⟩ := RTypeDecl.open K0
     refine S s<|nsw 104 U1<|nsw 105 V1<|yw q (lP · r1 F1 (v0 0 _ q) u9 q)<|yw q (y_lenStrN · q u9)<|yw q (fun s => yl_b (y_gtrN (i := ((x8.Name).length)) (j := 100) s q q) m0)<|mw q<|gw q<|gw q<|gw q<|gw q<|gw q<|gw q<|gw q<|tw_ q<|mw q<|gw q<|gw q<|gw q<|gw q<|gw q<|gw q<|gw q<|tw_ q<|nw fun a s => ?_
     exact ⟨(true), hg, (s.sb q q q)⟩
    have m0 := decide_eq_false i0
    replace hg := br_f hg i0
    obtain ⟨s2, u0, hg⟩ := zB hg
    rcases Bool.eq_false_or_eq_true (!(s2)) with j0 | j0
    ·replace hg := br_t hg j0
     refine S s<|lw<|mw q<|mw q fun a s => ?_
     obtain ⟨V3, a1, s1, G1, n3, L0, x0⟩ := SlR.elemX (s.ft 101 q) d0
     refine S s<|yw q (eL 3 a0 · u32 a1 (lt_of_get d0) q)<|yw q (pF 0 · u49 q) fun a s => ?_
     obtain ⟨w2, S2, x2, T2, rfl, E3, X1, Y1⟩ := RTypeDecl.open L0
     refine S s<|nsw 108 X1<|nsw 109 Y1<|yw q (lP · s1 G1 (x0 0 _ q) u9 q)<|yw q (y_lenStrN · q u9)<|yw q (fun s => yl_b (y_gtrN (i := ((x8.Name).length)) (j := 100) s q q) m0)<|mw q<|hw q<|hw q fun a s => ?_
     obtain ⟨X3, b1, t1, H1, o3, M0, y0⟩ := SlR.elemX (s.ft 101 q) d0
     refine S s<|zw q (eL 3 a0 · u32 b1 (lt_of_get d0) q)<|zw q (pF 1 · u49 q) fun a s => ?_
     obtain ⟨y2, U2, z2, V2, rfl, F3, Z1, a2⟩ := RTypeDecl.open M0
     refine S s<|nsw 110 Z1<|nsw 111 a2<|zw q (lP · t1 H1 (y0 1 _ q) u25 q) fun a s => ?_
     refine gV s q func73 (c_r21_lightNames n _ _ s.lt _ _ _ (s.ft 110 q) _ _ u0) fun a w hK s => ?_
     refine S s<|zw q (fun s => yl_b (y_not s q) j0)<|fw q<|mw q<|gw q<|gw q<|gw q<|gw q<|gw q<|gw q<|gw q<|tw_ q<|nw fun a s => ?_
     exact ⟨(true), hg, (s.sb q q q)⟩
    replace hg := br_n hg j0
    refine S s<|lw<|mw q<|mw q fun a s => ?_
    obtain ⟨Y3, c1, u1, I1, p3, O0, z0⟩ := SlR.elemX (s.ft 101 q) d0
    refine S s<|yw q (eL 3 a0 · u32 c1 (lt_of_get d0) q)<|yw q (pF 0 · u49 q) fun a s => ?_
    obtain ⟨B2, X2, C2, Y2, rfl, G3, b2, c2⟩ := RTypeDecl.open O0
    refine S s<|nsw 114 b2<|nsw 115 c2<|yw q (lP · u1 I1 (z0 0 _ q) u9 q)<|yw q (y_lenStrN · q u9)<|yw q (fun s => yl_b (y_gtrN (i := ((x8.Name).length)) (j := 100) s q q) m0)<|mw q<|hw q<|hw q fun a s => ?_
    obtain ⟨Z3, d1, v1, J1, q3, P0, B0⟩ := SlR.elemX (s.ft 101 q) d0
    refine S s<|zw q (eL 3 a0 · u32 d1 (lt_of_get d0) q)<|zw q (pF 1 · u49 q) fun a s => ?_
    obtain ⟨D2, Z2, E2, a3, rfl, H3, d2, e2⟩ := RTypeDecl.open P0
    refine S s<|nsw 116 d2<|nsw 117 e2<|zw q (lP · v1 J1 (B0 1 _ q) u25 q) fun a s => ?_
    refine gV s q func73 (c_r21_lightNames n _ _ s.lt _ _ _ (s.ft 116 q) _ _ u0) fun a w hK s => ?_
    refine S s<|zw q (fun s => yl_b (y_not s q) j0)<|fw q<|mw q<|hw q<|hw q fun a s => ?_
    obtain ⟨a4, e1, w1, K1, r3, Q0, C0⟩ := SlR.elemX (s.ft 101 q) d0
    refine S s<|zw q (eL 3 a0 · u32 e1 (lt_of_get d0) q)<|zw q (pF 2 · u49 q) fun a s => ?_
    obtain ⟨F2, b3, G2, c3, rfl, I3, g2, h2⟩ := RTypeDecl.open Q0
    refine S s<|nsw 118 g2<|nsw 119 h2<|zw q (lP · w1 K1 (C0 2 _ q) u47 q)<|zw q (lS · q u47)<|zw q (y_gtrN (i := ((x8.Feats).length)) (j := 260) · q q)<|fw q<|nw fun a s => ?_
    exact ⟨(decide ((260 : Nat) < ((x8.Feats).length))), hg, (s.sb q q q)⟩
   clear s a; rintro a w ⟨t0, hg, s⟩
   subst q1
   refine c_cond s q (fun o0 => ?_) (fun o0 => ?_)
   ·replace hg := br_t hg o0
    refine S s<|vw<|aw q<|nw fun a s => ?_
    apply wp_ret
    refine p_thenR ?_
    refine p_inR ?_
    refine p_thenR ?_
    refine p_thenR ?_
    refine p_inR ?_
    refine p_thenR ?_
    obtain rfl := si hg
    exact fT f74 s q q q
   replace hg := br_n hg o0
   refine S s<|kw<|pw<|vw<|aw q<|nw<|bw fun a s => ?_
   refine c_loop (σ := Nat) (fun m2 a w => ∃ (e0 : Nat), r21_lightTypes_L1 n t_ a0 k4 m2 e0 = some r ∧ St (cx f74 M w0) [(0, sl b0 t_ c0), (3, vI (((a0 : Nat) : Int))), (4, vI (((e0 : Nat) : Int)))] [] [(101, sF RTypeDecl b0 c0 t_)] a w) (fun m2 => m2) n ⟨(0), hg, (s.sb q q q)⟩ ?_
   clear s a; rintro m2 a w ⟨e0, hg, s⟩
   rcases m2 with _ | m2
   ·rw [r21_lightTypes_L1] at hg; cases hg
   rw [r21_lightTypes_L1] at hg
   obtain ⟨t2, g0, hg⟩ := zB hg
   refine S s<|sw<|sw<|lw<|mw q<|mw q<|mw q fun a s => ?_
   obtain ⟨b4, g1, x1, L1, s3, R0, D0⟩ := SlR.elemX (s.ft 101 q) g0
   refine S s<|yw q (eL 3 a0 · u32 g1 (lt_of_get g0) q)<|yw q (pF 2 · u49 q) fun a s => ?_
   obtain ⟨H2, d3, I2, e3, rfl, J3, i2, j2⟩ := RTypeDecl.open R0
   refine S s<|nsw 122 i2<|nsw 123 j2<|yw q (lP · x1 L1 (D0 2 _ q) u47 q)<|yw q (lS · q u47)<|yw q (y_lssN (i := e0) (j := ((t2.Feats).length)) · q q)<|nw fun a s => c_dec s q (fun p0 => ?_) (fun p0 => ?_)
   ·replace hg := br_t hg p0
    have C3 := SlR.mx (s.ft 123 q)
    refine S s<|kw<|pw<|sw<|bw<|sw fun a s => ?_
    obtain ⟨r2, hg, p1⟩ := zJ hg
    refine c_post (fun a w => ∃ (s0 : Bool), r2 s0 = some r ∧ St (cx f74 M w0) [(0, sl b0 t_ c0), (3, vI (((a0 : Nat) : Int))), (4, vI (((e0 : Nat) : Int))), (69, .bool (s0))] [] [(101, sF RTypeDecl b0 c0 t_)] a w) ?_ ?_
    ·obtain ⟨l0, h0, hg⟩ := zB hg
     rcases Decidable.em ((100 : Nat) < ((l0.Feat).length)) with k0 | k0
     ·have r0 := decide_eq_true k0
      replace hg := br_t hg k0
      refine S s<|lw<|mw q<|mw q fun a s => ?_
      obtain ⟨c4, h1, y1, M1, t3, S0, E0⟩ := SlR.elemX (s.ft 101 q) g0
      refine S s<|yw q (eL 3 a0 · u32 h1 (lt_of_get g0) q)<|yw q (pF 2 · u49 q) fun a s => ?_
      obtain ⟨J2, g3, K2, h3, rfl, K3, k2, l2⟩ := RTypeDecl.open S0
      refine S s<|nsw 126 k2<|nsw 127 l2<|yw q (lP · y1 M1 (E0 2 _ q) u47 q)<|mw q fun a s => ?_
      obtain ⟨d4, i1, z1, O1, v3, T0, F0⟩ := SlR.elemX (s.ft 127 q) h0
      refine S s<|yw q (eL 2 e0 · u47 i1 (lt_of_get h0) q)<|yw q (pF 0 · u82 q) fun a s => ?_
      obtain ⟨rfl, L3, M3⟩ := RFeatDecl.open T0
      refine S s<|yw q (lP · z1 O1 (F0 0 _ q) u9 q)<|yw q (y_lenStrN · q u9)<|yw q (fun s => yl_b (y_gtrN (i := ((l0.Feat).length)) (j := 100) s q q) r0)<|mw q<|gw q<|gw q<|gw q<|gw q<|gw q<|gw q<|gw q<|gw q<|gw q<|gw q<|gw q<|tw_ q<|nw fun a s => ?_
      exact ⟨(true), hg, (s.sb q q q)⟩
     have r0 := decide_eq_false k0
     replace hg := br_f hg k0
     refine S s<|lw<|mw q<|mw q fun a s => ?_
     obtain ⟨e4, j1, B1, P1, w3, U0, G0⟩ := SlR.elemX (s.ft 101 q) g0
     refine S s<|yw q (eL 3 a0 · u32 j1 (lt_of_get g0) q)<|yw q (pF 2 · u49 q) fun a s => ?_
     obtain ⟨L2, i3, M2, j3, rfl, O3, n2, o2⟩ := RTypeDecl.open U0
     refine S s<|nsw 130 n2<|nsw 131 o2<|yw q (lP · B1 P1 (G0 2 _ q) u47 q)<|mw q fun a s => ?_
     obtain ⟨g4, k1, C1, Q1, x3, V0, H0⟩ := SlR.elemX (s.ft 131 q) h0
     refine S s<|yw q (eL 2 e0 · u47 k1 (lt_of_get h0) q)<|yw q (pF 0 · u82 q) fun a s => ?_
     obtain ⟨rfl, P3, Q3⟩ := RFeatDecl.open V0
     refine S s<|yw q (lP · C1 Q1 (H0 0 _ q) u9 q)<|yw q (y_lenStrN · q u9)<|yw q (fun s => yl_b (y_gtrN (i := ((l0.Feat).length)) (j := 100) s q q) r0)<|mw q<|hw q<|hw q fun a s => ?_
     obtain ⟨h4, l1, D1, R1, y3, X0, I0⟩ := SlR.elemX (s.ft 101 q) g0
     refine S s<|zw q (eL 3 a0 · u32 l1 (lt_of_get g0) q)<|zw q (pF 2 · u49 q) fun a s => ?_
     obtain ⟨O2, k3, P2, l3, rfl, R3, p2, q2⟩ := RTypeDecl.open X0
     refine S s<|nsw 132 p2<|nsw 133 q2<|zw q (lP · D1 R1 (I0 2 _ q) u47 q)<|hw q fun a s => ?_
     obtain ⟨i4, n1, E1, S1, z3, Y0, J0⟩ := SlR.elemX (s.ft 133 q) h0
     refine S s<|zw q (eL 2 e0 · u47 n1 (lt_of_get h0) q)<|zw q (pF 1 · u82 q) fun a s => ?_
     obtain ⟨rfl, S3, T3⟩ := RFeatDecl.open Y0
     refine S s<|zw q (lP · E1 S1 (J0 1 _ q) u9 q)<|zw q (y_lenStrN · q u9)<|zw q (y_gtrN (i := ((l0.Value).length)) (j := 100) · q q)<|fw q<|nw fun a s => ?_
     exact ⟨(decide ((100 : Nat) < ((l0.Value).length))), hg, (s.sb q q q)⟩
    clear s a; rintro a w ⟨s0, hg, s⟩
    subst p1
    refine c_cond s q (fun q0 => ?_) (fun q0 => ?_)
    ·replace hg := br_t hg q0
     refine S s<|vw<|aw q<|nw fun a s => ?_
     apply wp_ret
     refine p_inR ?_
     refine p_thenR ?_
     refine p_thenR ?_
     refine p_inR ?_
     refine p_inR ?_
     refine p_thenR ?_
     refine p_thenR ?_
     refine p_inR ?_
     refine p_thenR ?_
     obtain rfl := si hg
     exact fT f74 s q q q
    replace hg := br_n hg q0
    apply wp_skip
    refine p_inN ?_
    refine S s<|pw<|lw<|mw q<|yw q (y_addN (i := e0) (j := 1) · q q (in64.2 (by omega)))<|aw q<|nw fun a s => ?_
    exact ⟨m2, Nat.lt_succ_self _, ⟨(e0 + 1), hg, (s.sb q q q)⟩⟩
   replace hg := br_f hg p0
   apply wp_exit
   refine p_then ?_
   refine p_then ?_
   refine p_in ?_
   refine p_inN ?_
   apply pN
   exact ⟨hg, (s.sb q q q)⟩
  clear s a; rintro a w ⟨hg, s⟩
  subst o1
  refine S s<|lw<|mw q<|yw q (y_addN (i := a0) (j := 1) · q q (in64.2 (by omega)))<|aw q<|nw fun a s => ?_
  exact ⟨m1, Nat.lt_succ_self _, ⟨(a0 + 1), hg, (s.sb q q q)⟩⟩
 replace hg := br_f hg n0
 apply wp_exit
 refine p_then ?_
 refine p_then ?_
 refine p_in ?_
 refine S s<|pw<|vw<|aw q<|nw fun a s => ?_
 apply wp_ret
 obtain rfl := si hg
 exact fT f74 s q q q
theorem c_r19_weight (n : Nat) : ∀ (M : Bs) (w0 : World) (hM : bM M w0) (t_ : Desc) (a0 : OA) (c0 : Nat) (b0 : OA) (d0 : Nat) (b1 : (t_.Name).length ≤ 9223372036854775807) (x0 : sR Rep.str M w0 a0 c0 t_.Path) (y0 : sR RDesc M w0 b0 d0 t_.Kids) (t_' : Int) (t_'' : Int) (r : Int) (hg : r19_weight n t_ t_' t_'' = some r),
    CA Tryz.prog 135 [.agg #[.int .i64 (t_.Op), vT t_.Name, sl a0 t_.Path c0, sl b0 t_.Kids d0], .int .i64 (t_'), .int .i64 (t_'')] w0 (fun v w => v = .int .i64 (r)) := by
 induction n with
 | zero => intros; rename_i hg; rw [r19_weight] at hg; cases hg
 | succ n c_self =>
 intro M w0 hM t_ a0 c0 b0 d0 b1 x0 y0 t_' t_'' r hg
 rw [r19_weight] at hg
 refine enter M noB func135 q q hM ?_
 intro a s
 let F : Al Fact := [(101, sF Rep.str a0 c0 t_.Path), (102, sF RDesc b0 d0 t_.Kids)]
 refine S s<|esw 101 x0<|esw 102 y0<|vw fun a s => ?_
 refine l_seq q (l_box (zs := [vI t_.Op, vT t_.Name, sl a0 t_.Path c0, sl b0 t_.Kids d0]) s 1000 q q q q fun b2 a w hb hK s => ?_)
 refine S s<|aw q<|nw<|sw<|sw fun a s => ?_
 obtain ⟨k3, hg, P0⟩ := zJ hg
 refine c_post (fun a w => ∃ (v0 : Bool), k3 v0 = some r ∧ St (cx f135 M w0) [(1, vI (t_')), (2, vI (t_'')), (3, vP b2 0), (30, .bool (v0))] [(1000, Ob.box b2 [vI t_.Op, vT t_.Name, sl a0 t_.Path c0, sl b0 t_.Kids d0] 60)] F a w) ?_ ?_
 ·rcases Decidable.em ((80 : Int) < t_') with j0 | j0
  ·have k0 := decide_eq_true j0
   replace hg := br_t hg j0
   refine S s<|lw<|mw q<|yw q (fun s => yl_b (y_gtr s q q) k0)<|mw q<|gw q<|gw q<|gw q<|gw q<|tw_ q<|mw q<|gw q<|gw q<|gw q<|gw q<|tw_ q<|mw q<|gw q<|gw q<|gw q<|gw q<|gw q<|tw_ q<|nw fun a s => ?_
   exact ⟨(true), hg, (s.sb q q q)⟩
  have k0 := decide_eq_false j0
  replace hg := br_f hg j0
  rcases Decidable.em ((60 : Nat) < ((t_.Name).length)) with l0 | l0
  ·have n0 := decide_eq_true l0
   replace hg := br_t hg l0
   refine S s<|lw<|mw q<|yw q (fun s => yl_b (y_gtr s q q) k0)<|mw q<|zw q (bF 1 · u60 q)<|zw q (lB 1000 · u9 q)<|zw q (y_lenStrN · q u9)<|zw q (fun s => yl_b (y_gtrN (i := ((t_.Name).length)) (j := 60) s q q) n0)<|fw q<|mw q<|gw q<|gw q<|gw q<|gw q<|tw_ q<|mw q<|gw q<|gw q<|gw q<|gw q<|gw q<|tw_ q<|nw fun a s => ?_
   exact ⟨(true), hg, (s.sb q q q)⟩
  have n0 := decide_eq_false l0
  replace hg := br_f hg l0
  rcases Decidable.em ((80 : Nat) < ((t_.Path).length)) with m0 | m0
  ·have t0 := decide_eq_true m0
   replace hg := br_t hg m0
   have p1 := SlR.mx (s.ft 101 q)
   refine S s<|lw<|mw q<|yw q (fun s => yl_b (y_gtr s q q) k0)<|mw q<|zw q (bF 1 · u60 q)<|zw q (lB 1000 · u9 q)<|zw q (y_lenStrN · q u9)<|zw q (fun s => yl_b (y_gtrN (i := ((t_.Name).length)) (j := 60) s q q) n0)<|fw q<|mw q<|zw q (bF 2 · u60 q)<|zw q (lB 1000 · u25 q)<|zw q (lS · q u25)<|zw q (fun s => yl_b (y_gtrN (i := ((t_.Path).length)) (j := 80) s q q) t0)<|fw q<|mw q<|gw q<|gw q<|gw q<|gw q<|gw q<|tw_ q<|nw fun a s => ?_
   exact ⟨(true), hg, (s.sb q q q)⟩
  have t0 := decide_eq_false m0
  replace hg := br_f hg m0
  refine S s<|lw<|mw q<|yw q (fun s => yl_b (y_gtr s q q) k0)<|mw q<|zw q (bF 1 · u60 q)<|zw q (lB 1000 · u9 q)<|zw q (y_lenStrN · q u9)<|zw q (fun s => yl_b (y_gtrN (i := ((t_.Name).length)) (j := 60) s q q) n0)<|fw q<|mw q<|zw q (bF 2 · u60 q)<|zw q (lB 1000 · u25 q)<|zw q (lS · q u25)<|zw q (fun s => yl_b (y_gtrN (i := ((t_.Path).length)) (j := 80) s q q) t0)<|fw q<|mw q<|zw q (bF 3 · u60 q)<|zw q (lB 1000 · u58 q)<|zw q (lS · q u58)<|hw q<|zw q (y_gtr · q q)<|fw q<|nw fun a s => ?_
  exact ⟨(decide (t_'' < (((t_.Kids).length : Nat) : Int))), hg, (s.sb q q q)⟩
 clear s a; rintro a w ⟨v0, hg, s⟩
 subst P0
 refine c_cond s q (fun r0 => ?_) (fun r0 => ?_)
 ·replace hg := br_t hg r0
  obtain ⟨K0, hg⟩ := zC hg
  refine S s<|sw<|lw<|mw q<|yw q (y_add · q q (in64.2 K0))<|aw q<|nw fun a s => ?_
  apply wp_ret
  refine p_thenR ?_
  obtain rfl := si hg
  exact fT f135 s q q q
 replace hg := br_n hg r0
 refine S s<|kw<|pw<|sw<|vw<|aw q<|nw fun a s => ?_
 obtain ⟨C0, hg, L0⟩ := zJ hg
 refine c_post (fun a w => C0 = some r ∧ St (cx f135 M w0) [(1, vI (t_')), (2, vI (t_'')), (3, vP b2 0)] [(1000, Ob.box b2 [vI t_.Op, vT t_.Name, sl a0 t_.Path c0, sl b0 t_.Kids d0] 60)] F a w) ?_ ?_
 ·apply wp_block
  refine c_loop (σ := Nat) (fun m1 a w => ∃ (g0 : Nat), r19_weight_L0 n t_ t_'' C0 m1 g0 = some r ∧ St (cx f135 M w0) [(1, vI (t_')), (2, vI (t_'')), (3, vP b2 0), (7, vI (((g0 : Nat) : Int)))] [(1000, Ob.box b2 [vI t_.Op, vT t_.Name, sl a0 t_.Path c0, sl b0 t_.Kids d0] 60)] F a w) (fun m1 => m1) n ⟨(0), hg, (s.sb q q q)⟩ ?_
  clear s a; rintro m1 a w ⟨g0, hg, s⟩
  rcases m1 with _ | m1
  ·rw [r19_weight_L0] at hg; cases hg
  rw [r19_weight_L0] at hg
  refine S s<|sw<|vw<|mw q<|yw q (bF 2 · u60 q)<|yw q (lB 1000 · u25 q)<|yw q (lS · q u25)<|yw q (y_lssN (i := g0) (j := ((t_.Path).length)) · q q)<|nw fun a s => c_dec s q (fun o0 => ?_) (fun o0 => ?_)
  ·replace hg := br_t hg o0
   have l1 := SlR.mx (s.ft 101 q)
   obtain ⟨D0, z0, hg⟩ := zB hg
   refine S s<|kw<|pw<|sw<|bw<|sw<|lw<|yw q (bF 2 · u60 q)<|yw q (lB 1000 · u25 q)<|mw q fun a s => ?_
   obtain ⟨s1, I0, S0, U0, i1, G0, E0⟩ := SlR.elemX (s.ft 101 q) z0
   refine qq s q (eL 1 g0 s u25 I0 (lt_of_get z0) q) fun a s => ?_
   obtain ⟨rfl, q1⟩ := G0
   refine S s<|yw q (lP · S0 U0 (E0 0 _ q) u9 q)<|yw q (y_lenStrN · q u9)<|yw q (y_gtrN (i := ((D0).length)) (j := 60) · q q)<|nw fun a s => c_dec s q (fun p0 => ?_) (fun p0 => ?_)
   ·replace hg := br_t hg p0
    have n1 : (D0).length ≤ 9223372036854775807 := (by omega)
    obtain ⟨M0, hg⟩ := zC hg
    refine S s<|sw<|lw<|mw q<|yw q (y_add · q q (in64.2 M0))<|aw q<|nw fun a s => ?_
    apply wp_ret
    refine p_inR ?_
    refine p_thenR ?_
    refine p_thenR ?_
    refine p_inR ?_
    refine p_thenR ?_
    obtain rfl := si hg
    exact fT f135 s q q q
   replace hg := br_f hg p0
   apply wp_skip
   refine p_inN ?_
   refine S s<|pw<|lw<|mw q<|yw q (y_addN (i := g0) (j := 1) · q q (in64.2 (by omega)))<|aw q<|nw fun a s => ?_
   exact ⟨m1, Nat.lt_succ_self _, ⟨(g0 + 1), hg, (s.sb q q q)⟩⟩
  replace hg := br_f hg o0
  apply wp_exit
  refine p_then ?_
  refine p_then ?_
  refine p_in ?_
  apply pN
  exact ⟨hg, (s.sb q q q)⟩
 clear s a; rintro a w ⟨hg, s⟩
 subst L0
 refine S s<|vw<|aw q<|nw<|sw<|vw<|aw q<|nw<|bw fun a s => ?_
 refine c_loop (σ := Nat) (fun m2 a w => ∃ (h0 : Int) (e0 : Nat), r19_weight_L1 n t_ t_' t_'' (r19_weight n) m2 h0 e0 = some r ∧ St (cx f135 M w0) [(1, vI (t_')), (2, vI (t_'')), (3, vP b2 0), (8, vI h0), (9, vI (((e0 : Nat) : Int)))] [(1000, Ob.box b2 [vI t_.Op, vT t_.Name, sl a0 t_.Path c0, sl b0 t_.Kids d0] 60)] F a w) (fun m2 => m2) n ⟨(1), (0), hg, (s.sb q q q)⟩ ?_
 clear s a; rintro m2 a w ⟨h0, e0, hg, s⟩
 rcases m2 with _ | m2
 ·rw [r19_weight_L1] at hg; cases hg
 rw [r19_weight_L1] at hg
 apply wQ
 apply wQ
 obtain ⟨a1, hg, O0⟩ := zJ hg
 refine c_post (fun a w => ∃ (u0 : Bool), a1 u0 = some r ∧ St (cx f135 M w0) [(1, vI (t_')), (2, vI (t_'')), (3, vP b2 0), (8, vI h0), (9, vI (((e0 : Nat) : Int))), (58, .bool (u0))] [(1000, Ob.box b2 [vI t_.Op, vT t_.Name, sl a0 t_.Path c0, sl b0 t_.Kids d0] 60)] F a w) ?_ ?_
 ·rcases Decidable.em (e0 < ((t_.Kids).length)) with i0 | i0
  ·have s0 := decide_eq_true i0
   replace hg := br_t hg i0
   have o1 := SlR.mx (s.ft 102 q)
   refine S s<|lw<|mw q<|yw q (bF 3 · u60 q)<|yw q (lB 1000 · u58 q)<|yw q (lS · q u58)<|yw q (fun s => yl_b (y_lssN (i := e0) (j := ((t_.Kids).length)) s q q) s0)<|mw q<|hw q<|hw q<|zw q (y_leq · q q)<|tw_ q<|nw fun a s => ?_
   exact ⟨(decide (h0 ≤ t_'')), hg, (s.sb q q q)⟩
  have s0 := decide_eq_false i0
  replace hg := br_f hg i0
  refine S s<|lw<|mw q<|yw q (bF 3 · u60 q)<|yw q (lB 1000 · u58 q)<|yw q (lS · q u58)<|yw q (fun s => yl_b (y_lssN (i := e0) (j := ((t_.Kids).length)) s q q) s0)<|mw q<|gw q<|gw q<|gw q<|fw q<|nw fun a s => ?_
  exact ⟨(false), hg, (s.sb q q q)⟩
 clear s a; rintro a w ⟨u0, hg, s⟩
 subst O0
 refine c_cond s q (fun q0 => ?_) (fun q0 => ?_)
 ·replace hg := br_t hg q0
  obtain ⟨u1, B0, hg⟩ := zB hg
  obtain ⟨Q0, hg⟩ := zC hg
  obtain ⟨c1, Z0, hg⟩ := zB hg
  obtain ⟨R0, hg⟩ := zC hg
  refine S s<|kw<|pw<|sw<|bw<|lw<|mw q<|yw q (bF 3 · u60 q)<|yw q (lB 1000 · u58 q)<|mw q fun a s => ?_
  obtain ⟨t1, J0, T0, V0, j1, H0, F0⟩ := SlR.elemX (s.ft 102 q) B0
  refine qq s q (eL 4 e0 s u58 J0 (lt_of_get B0) q) fun a s => ?_
  obtain ⟨d1, g1, e1, h1, rfl, r1, X0, Y0⟩ := RDesc.open H0
  refine S s<|nsw 105 X0<|nsw 106 Y0<|yw q (y_ldp · q T0 V0 (by simpa using F0) u60 q q)<|mw q<|yw q (y_add · q q (in64.2 Q0))<|mw q fun a s => ?_
  refine lV s q func135 (c_self _ _ s.lt _ _ _ _ _ (by omega) (s.ft 105 q) (s.ft 106 q) _ _ _ Z0) fun a w hK s => ?_
  refine S s<|yw q (y_add · q q (in64.2 R0))<|aw q fun a s => ?_
  apply wO
  refine p_inN ?_
  obtain ⟨k1, hg⟩ := zC hg
  refine S s<|pw<|lw<|mw q<|yw q (y_addN (i := e0) (j := 1) · q q (in64.2 (by omega)))<|aw q<|nw fun a s => ?_
  exact ⟨m2, Nat.lt_succ_self _, ⟨(h0 + c1), (e0 + 1), hg, (s.sb q q q)⟩⟩
 replace hg := br_n hg q0
 apply wp_exit
 refine p_then ?_
 refine p_then ?_
 refine p_in ?_
 refine S s<|pw<|vw<|mw q<|aw q<|nw fun a s => ?_
 apply wp_ret
 obtain rfl := si hg
 exact fT f135 s q q q
theorem c_r19_Light (n : Nat) (M : Bs) (w0 : World) (hM : bM M w0) (d_ : Desc) (a0 : OA) (c0 : Nat) (b0 : OA) (d0 : Nat) (i0 : (d_.Name).length ≤ 9223372036854775807) (e0 : sR Rep.str M w0 a0 c0 d_.Path) (g0 : sR RDesc M w0 b0 d0 d_.Kids) (most_ : Int) (r : Bool) (hg : r19_Light n d_ most_ = some r) :
    CA Tryz.prog 126 [.agg #[.int .i64 (d_.Op), vT d_.Name, sl a0 d_.Path c0, sl b0 d_.Kids d0], .int .i64 (most_)] w0 (fun v w => v = .bool (r)) := by
 unfold r19_Light at hg
 refine enter M noB func126 q q hM ?_
 intro a s
 refine S s<|esw 101 e0<|esw 102 g0<|vw fun a s => ?_
 refine l_seq q (l_box (zs := [vI d_.Op, vT d_.Name, sl a0 d_.Path c0, sl b0 d_.Kids d0]) s 1000 q q q q fun b2 a w hb hK s => ?_)
 obtain ⟨r3, h0, hg⟩ := zB hg
 refine S s<|aw q<|nw<|sw<|lw<|yw q (y_loadAll (kk := 1000) · q q u60 q q)<|mw q fun a s => ?_
 refine lV s q func135 (c_r19_weight n _ _ s.lt _ _ _ _ _ (by omega) (s.ft 101 q) (s.ft 102 q) _ _ _ h0) fun a w hK s => ?_
 refine S s<|mw q<|yw q (y_leq · q q)<|aw q<|nw fun a s => ?_
 apply wp_ret
 obtain rfl := si hg
 exact fT f126 s q q q
theorem c_r21_lightDef (n : Nat) (M : Bs) (w0 : World) (hM : bM M w0) (x_ : Def) (b0 : OA) (d0 : Nat) (c0 : OA) (e0 : Nat) (i0 : OA) (j0 : Nat) (O0 : (x_.Name).length ≤ 9223372036854775807) (P0 : (x_.Strict.Name).length ≤ 9223372036854775807) (y0 : sR Rep.str M w0 b0 d0 x_.Strict.Path) (z0 : sR RDesc M w0 c0 e0 x_.Strict.Kids) (B0 : sR RDesc M w0 i0 j0 x_.Defaults) (r : Bool) (hg : r21_lightDef n x_ = some r) :
    CA Tryz.prog 109 [.agg #[vT x_.Name, .int .i64 (x_.Strict.Op), vT x_.Strict.Name, sl b0 x_.Strict.Path d0, sl c0 x_.Strict.Kids e0, sl i0 x_.Defaults j0]] w0 (fun v w => v = .bool (r)) := by
 unfold r21_lightDef at hg
 refine enter M noB func109 q q hM ?_
 intro a s
 let F : Al Fact := [(101, sF Rep.str b0 d0 x_.Strict.Path), (102, sF RDesc c0 e0 x_.Strict.Kids), (103, sF RDesc i0 j0 x_.Defaults)]
 let B : List Value := [vT x_.Name, vI x_.Strict.Op, vT x_.Strict.Name, sl b0 x_.Strict.Path d0, sl c0 x_.Strict.Kids e0, sl i0 x_.Defaults j0]
 refine S s<|esw 101 y0<|esw 102 z0<|esw 103 B0<|vw fun a s => ?_
 refine l_seq q (l_box (zs := B) s 1000 q q q q fun b2 a w hb hK s => ?_)
 refine S s<|aw q<|nw<|sw<|sw fun a s => ?_
 obtain ⟨k3, hg, u0⟩ := zJ hg
 refine c_post (fun a w => ∃ (p0 : Bool), k3 p0 = some r ∧ St (cx f109 M w0) [(1, vP b2 0), (19, .bool (p0))] [(1000, Ob.box b2 B 62)] F a w) ?_ ?_
 ·rcases Decidable.em ((60 : Nat) < ((x_.Name).length)) with g0 | g0
  ·have k0 := decide_eq_true g0
   replace hg := br_t hg g0
   refine S s<|lw<|yw q (bF 0 · u62 q)<|yw q (lB 1000 · u9 q)<|yw q (y_lenStrN · q u9)<|yw q (fun s => yl_b (y_gtrN (i := ((x_.Name).length)) (j := 60) s q q) k0)<|mw q<|gw q<|gw q<|gw q<|gw q<|tw_ q<|mw q<|gw q<|gw q<|gw q<|gw q<|tw_ q<|nw fun a s => ?_
   exact ⟨(true), hg, (s.sb q q q)⟩
  have k0 := decide_eq_false g0
  replace hg := br_f hg g0
  rcases Decidable.em ((8 : Nat) < ((x_.Defaults).length)) with h0 | h0
  ·have o0 := decide_eq_true h0
   replace hg := br_t hg h0
   have M0 := SlR.mx (s.ft 103 q)
   refine S s<|lw<|yw q (bF 0 · u62 q)<|yw q (lB 1000 · u9 q)<|yw q (y_lenStrN · q u9)<|yw q (fun s => yl_b (y_gtrN (i := ((x_.Name).length)) (j := 60) s q q) k0)<|mw q<|zw q (bF 5 · u62 q)<|zw q (lB 1000 · u58 q)<|zw q (lS · q u58)<|zw q (fun s => yl_b (y_gtrN (i := ((x_.Defaults).length)) (j := 8) s q q) o0)<|fw q<|mw q<|gw q<|gw q<|gw q<|gw q<|tw_ q<|nw fun a s => ?_
   exact ⟨(true), hg, (s.sb q q q)⟩
  have o0 := decide_eq_false h0
  replace hg := br_f hg h0
  obtain ⟨r8, F0, hg⟩ := zB hg
  refine S s<|lw<|yw q (bF 0 · u62 q)<|yw q (lB 1000 · u9 q)<|yw q (y_lenStrN · q u9)<|yw q (fun s => yl_b (y_gtrN (i := ((x_.Name).length)) (j := 60) s q q) k0)<|mw q<|zw q (bF 5 · u62 q)<|zw q (lB 1000 · u58 q)<|zw q (lS · q u58)<|zw q (fun s => yl_b (y_gtrN (i := ((x_.Defaults).length)) (j := 8) s q q) o0)<|fw q<|mw q<|zw q (bF 1 · u62 q)<|zw q (y_loadBox (kk := 1000) (n := 4) (vs := [vI x_.Strict.Op, vT x_.Strict.Name, sl b0 x_.Strict.Path d0, sl c0 x_.Strict.Kids e0]) · q q u60 q q q q) fun a s => ?_
  refine gV s q func126 (c_r19_Light n _ _ s.lt _ _ _ _ _ (by omega) (s.ft 101 q) (s.ft 102 q) _ _ F0) fun a w hK s => ?_
  refine S s<|zw q (y_not · q)<|fw q<|nw fun a s => ?_
  exact ⟨(!(r8)), hg, (s.sb q q q)⟩
 clear s a; rintro a w ⟨p0, hg, s⟩
 subst u0
 refine c_cond s q (fun l0 => ?_) (fun l0 => ?_)
 ·replace hg := br_t hg l0
  refine S s<|vw<|aw q<|nw fun a s => ?_
  apply wp_ret
  refine p_thenR ?_
  obtain rfl := si hg
  exact fT f109 s q q q
 replace hg := br_n hg l0
 refine S s<|kw<|pw<|sw<|vw<|aw q<|nw<|bw fun a s => ?_
 refine c_loop (σ := Nat) (fun m1 a w => ∃ (a0 : Nat), r21_lightDef_L0 n x_ m1 a0 = some r ∧ St (cx f109 M w0) [(1, vP b2 0), (3, vI (((a0 : Nat) : Int)))] [(1000, Ob.box b2 B 62)] F a w) (fun m1 => m1) n ⟨(0), hg, (s.sb q q q)⟩ ?_
 clear s a; rintro m1 a w ⟨a0, hg, s⟩
 rcases m1 with _ | m1
 ·rw [r21_lightDef_L0] at hg; cases hg
 rw [r21_lightDef_L0] at hg
 refine S s<|sw<|vw<|mw q<|yw q (bF 5 · u62 q)<|yw q (lB 1000 · u58 q)<|yw q (lS · q u58)<|yw q (y_lssN (i := a0) (j := ((x_.Defaults).length)) · q q)<|nw fun a s => c_dec s q (fun m0 => ?_) (fun m0 => ?_)
 ·replace hg := br_t hg m0
  have L0 := SlR.mx (s.ft 103 q)
  obtain ⟨T0, q0, hg⟩ := zB hg
  obtain ⟨S0, E0, hg⟩ := zB hg
  refine S s<|kw<|pw<|sw<|bw<|sw<|lw<|yw q (bF 5 · u62 q)<|yw q (lB 1000 · u58 q)<|mw q fun a s => ?_
  obtain ⟨R0, t0, v0, x0, K0, s0, r0⟩ := SlR.elemX (s.ft 103 q) q0
  refine qq s q (eL 4 a0 s u58 t0 (lt_of_get q0) q) fun a s => ?_
  obtain ⟨G0, I0, H0, J0, rfl, Q0, C0, D0⟩ := RDesc.open s0
  refine S s<|nsw 106 C0<|nsw 107 D0<|yw q (y_ldp · q v0 x0 (by simpa using r0) u60 q q) fun a s => ?_
  refine lV s q func126 (c_r19_Light n _ _ s.lt _ _ _ _ _ (by omega) (s.ft 106 q) (s.ft 107 q) _ _ E0) fun a w hK s => ?_
  refine S s<|yw q (y_not · q)<|nw fun a s => c_cond s q (fun n0 => ?_) (fun n0 => ?_)
  ·replace hg := br_t hg n0
   refine S s<|vw<|aw q<|nw fun a s => ?_
   apply wp_ret
   refine p_inR ?_
   refine p_thenR ?_
   refine p_thenR ?_
   refine p_inR ?_
   refine p_thenR ?_
   obtain rfl := si hg
   exact fT f109 s q q q
  replace hg := br_n hg n0
  apply wp_skip
  refine p_inN ?_
  refine S s<|pw<|lw<|mw q<|yw q (y_addN (i := a0) (j := 1) · q q (in64.2 (by omega)))<|aw q<|nw fun a s => ?_
  exact ⟨m1, Nat.lt_succ_self _, ⟨(a0 + 1), hg, (s.sb q q q)⟩⟩
 replace hg := br_f hg m0
 apply wp_exit
 refine p_then ?_
 refine p_then ?_
 refine p_in ?_
 refine S s<|pw<|vw<|aw q<|nw fun a s => ?_
 apply wp_ret
 obtain rfl := si hg
 exact fT f109 s q q q
theorem c_r21_lightDefs (n : Nat) (M : Bs) (w0 : World) (hM : bM M w0) (l_ : (List Def)) (b0 : OA) (c0 : Nat) (m0 : sR RDef M w0 b0 c0 l_) (r : Bool) (hg : r21_lightDefs n l_ = some r) :
    CA Tryz.prog 75 [sl b0 l_ c0] w0 (fun v w => v = .bool (r)) := by
 unfold r21_lightDefs at hg
 refine enter M noB func75 q q hM ?_
 intro a s
 refine S s<|esw 101 m0<|vw<|aw q<|nw<|sw<|vw<|aw q<|nw<|bw fun a s => ?_
 refine c_loop (σ := Nat) (fun m1 a w => ∃ (a0 : Nat), r21_lightDefs_L0 n l_ m1 a0 = some r ∧ St (cx f75 M w0) [(0, sl b0 l_ c0), (3, vI (((a0 : Nat) : Int)))] [] [(101, sF RDef b0 c0 l_)] a w) (fun m1 => m1) n ⟨(0), hg, (s.sb q q q)⟩ ?_
 clear s a; rintro m1 a w ⟨a0, hg, s⟩
 rcases m1 with _ | m1
 ·rw [r21_lightDefs_L0] at hg; cases hg
 rw [r21_lightDefs_L0] at hg
 refine S s<|sw<|vw<|mw q<|mw q<|yw q (lS · q u33)<|yw q (y_lssN (i := a0) (j := ((l_).length)) · q q)<|nw fun a s => c_dec s q (fun e0 => ?_) (fun e0 => ?_)
 ·replace hg := br_t hg e0
  have z0 := SlR.mx (s.ft 101 q)
  obtain ⟨x5, g0, hg⟩ := zB hg
  obtain ⟨r7, q0, hg⟩ := zB hg
  refine S s<|kw<|pw<|sw<|bw<|sw<|lw<|mw q<|mw q fun a s => ?_
  obtain ⟨D0, j0, k0, l0, y0, i0, h0⟩ := SlR.elemX (s.ft 101 q) g0
  refine qq s q (eL 6 a0 s u33 j0 (lt_of_get g0) q) fun a s => ?_
  obtain ⟨r0, u0, s0, v0, t0, x0, rfl, B0, C0, n0, o0, p0⟩ := RDef.open i0
  refine S s<|nsw 105 n0<|nsw 106 o0<|nsw 107 p0<|yw q (y_ldp · q k0 l0 (by simpa using h0) u62 q q) fun a s => ?_
  refine lV s q func109 (c_r21_lightDef n _ _ s.lt _ _ _ _ _ _ _ (by omega) (by omega) (s.ft 105 q) (s.ft 106 q) (s.ft 107 q) _ q0) fun a w hK s => ?_
  refine S s<|yw q (y_not · q)<|nw fun a s => c_cond s q (fun d0 => ?_) (fun d0 => ?_)
  ·replace hg := br_t hg d0
   refine S s<|vw<|aw q<|nw fun a s => ?_
   apply wp_ret
   refine p_inR ?_
   refine p_thenR ?_
   refine p_thenR ?_
   refine p_inR ?_
   refine p_thenR ?_
   obtain rfl := si hg
   exact fT f75 s q q q
  replace hg := br_n hg d0
  apply wp_skip
  refine p_inN ?_
  refine S s<|pw<|lw<|mw q<|yw q (y_addN (i := a0) (j := 1) · q q (in64.2 (by omega)))<|aw q<|nw fun a s => ?_
  exact ⟨m1, Nat.lt_succ_self _, ⟨(a0 + 1), hg, (s.sb q q q)⟩⟩
 replace hg := br_f hg e0
 apply wp_exit
 refine p_then ?_
 refine p_then ?_
 refine p_in ?_
 refine S s<|pw<|vw<|aw q<|nw fun a s => ?_
 apply wp_ret
 obtain rfl := si hg
 exact fT f75 s q q q
theorem c_r21_lightWords (n : Nat) (M : Bs) (w0 : World) (hM : bM M w0) (t_ : Module) (o0 : OA) (y0 : Nat) (p0 : OA) (z0 : Nat) (q0 : OA) (B0 : Nat) (r0 : OA) (C0 : Nat) (s0 : OA) (D0 : Nat) (t0 : OA) (E0 : Nat) (u0 : OA) (F0 : Nat) (v0 : OA) (G0 : Nat) (n0 : OA) (x0 : Nat) (e6 : (t_.Name).length ≤ 9223372036854775807) (K2 : sR Rep.str M w0 o0 y0 t_.Imports) (L2 : sR RTypeDecl M w0 p0 z0 t_.Types) (M2 : sR RDef M w0 q0 B0 t_.Templates) (O2 : sR REntryDecl M w0 r0 C0 t_.Entries) (P2 : sR RLexDecl M w0 s0 D0 t_.LexRules) (Q2 : sR RDef M w0 t0 E0 t_.Rules) (R2 : sR RDef M w0 u0 F0 t_.Roots) (S2 : sR (Rep.list Rep.str) M w0 v0 G0 t_.Checks) (J2 : sR Rep.str M w0 n0 x0 t_.Drops) (r : Bool) (hg : r21_lightWords n t_ = some r) :
    CA Tryz.prog 76 [.agg #[vT t_.Name, sl o0 t_.Imports y0, sl p0 t_.Types z0, sl q0 t_.Templates B0, sl r0 t_.Entries C0, sl s0 t_.LexRules D0, sl t0 t_.Rules E0, sl u0 t_.Roots F0, sl v0 t_.Checks G0, sl n0 t_.Drops x0]] w0 (fun v w => v = .bool (r)) := by
 unfold r21_lightWords at hg
 refine enter M noB func76 q q hM ?_
 intro a s
 let F : Al Fact := [(101, sF Rep.str o0 y0 t_.Imports), (102, sF RTypeDecl p0 z0 t_.Types), (103, sF RDef q0 B0 t_.Templates), (104, sF REntryDecl r0 C0 t_.Entries), (105, sF RLexDecl s0 D0 t_.LexRules), (106, sF RDef t0 E0 t_.Rules), (107, sF RDef u0 F0 t_.Roots), (108, sF (Rep.list Rep.str) v0 G0 t_.Checks), (109, sF Rep.str n0 x0 t_.Drops)]
 let B : List Value := [vT t_.Name, sl o0 t_.Imports y0, sl p0 t_.Types z0, sl q0 t_.Templates B0, sl r0 t_.Entries C0, sl s0 t_.LexRules D0, sl t0 t_.Rules E0, sl u0 t_.Roots F0, sl v0 t_.Checks G0, sl n0 t_.Drops x0]
 refine S s<|esw 101 K2<|esw 102 L2<|esw 103 M2<|esw 104 O2<|esw 105 P2<|esw 106 Q2<|esw 107 R2<|esw 108 S2<|esw 109 J2<|vw fun a s => ?_
 refine l_seq q (l_box (zs := B) s 1000 q q q q fun b2 a w hb hK s => ?_)
 refine S s<|aw q<|nw<|sw<|vw<|aw q<|nw fun a s => ?_
 obtain ⟨k3, hg, X1⟩ := zJ hg
 refine c_post (fun a w => k3 = some r ∧ St (cx f76 M w0) [(1, vP b2 0)] [(1000, Ob.box b2 B 38)] F a w) ?_ ?_
 ·apply wp_block
  refine c_loop (σ := Nat) (fun m1 a w => ∃ (b0 : Nat), r21_lightWords_L0 n t_ k3 m1 b0 = some r ∧ St (cx f76 M w0) [(1, vP b2 0), (3, vI (((b0 : Nat) : Int)))] [(1000, Ob.box b2 B 38)] F a w) (fun m1 => m1) n ⟨(0), hg, (s.sb q q q)⟩ ?_
  clear s a; rintro m1 a w ⟨b0, hg, s⟩
  rcases m1 with _ | m1
  ·rw [r21_lightWords_L0] at hg; cases hg
  rw [r21_lightWords_L0] at hg
  refine S s<|sw<|vw<|mw q<|yw q (bF 4 · u38 q)<|yw q (lB 1000 · u34 q)<|yw q (lS · q u34)<|yw q (y_lssN (i := b0) (j := ((t_.Entries).length)) · q q)<|nw fun a s => c_dec s q (fun K0 => ?_) (fun K0 => ?_)
  ·replace hg := br_t hg K0
   have b6 := SlR.mx (s.ft 104 q)
   refine S s<|kw<|pw<|sw<|bw<|sw fun a s => ?_
   obtain ⟨k7, hg, d2⟩ := zJ hg
   refine c_post (fun a w => ∃ (U0 : Bool), k7 U0 = some r ∧ St (cx f76 M w0) [(1, vP b2 0), (3, vI (((b0 : Nat) : Int))), (31, .bool (U0))] [(1000, Ob.box b2 B 38)] F a w) ?_ ?_
   ·obtain ⟨Z6, g0, hg⟩ := zB hg
    obtain ⟨T3, Y0, hg⟩ := zB hg
    rcases Bool.eq_false_or_eq_true (!(T3)) with j0 | j0
    ·replace hg := br_t hg j0
     refine S s<|lw<|yw q (bF 4 · u38 q)<|yw q (lB 1000 · u34 q)<|mw q fun a s => ?_
     obtain ⟨J6, I1, g2, v2, L5, t1, d1⟩ := SlR.elemX (s.ft 104 q) g0
     refine S s<|yw q (eL 7 b0 · u34 I1 (lt_of_get g0) q)<|yw q (pF 0 · u89 q) fun a s => ?_
     obtain ⟨Z3, T4, a4, U4, b4, V4, c4, X4, rfl, T2, g6, h6, U2, V2, X2⟩ := REntryDecl.open t1
     refine S s<|nsw 114 T2<|nsw 115 U2<|nsw 116 V2<|nsw 117 X2<|yw q (lP · g2 v2 (d1 0 _ q) u25 q) fun a s => ?_
     refine lV s q func73 (c_r21_lightNames n _ _ s.lt _ _ _ (s.ft 114 q) _ _ Y0) fun a w hK s => ?_
     refine S s<|yw q (fun s => yl_b (y_not s q) j0)<|mw q<|gw q<|gw q<|gw q<|gw q<|gw q<|gw q<|gw q<|gw q<|tw_ q<|nw fun a s => ?_
     exact ⟨(true), hg, (s.sb q q q)⟩
    replace hg := br_n hg j0
    obtain ⟨U3, O3, hg⟩ := zB hg
    refine S s<|lw<|yw q (bF 4 · u38 q)<|yw q (lB 1000 · u34 q)<|mw q fun a s => ?_
    obtain ⟨K6, J1, h2, w2, M5, u1, e1⟩ := SlR.elemX (s.ft 104 q) g0
    refine S s<|yw q (eL 7 b0 · u34 J1 (lt_of_get g0) q)<|yw q (pF 0 · u89 q) fun a s => ?_
    obtain ⟨d4, Y4, e4, Z4, g4, a5, h4, b5, rfl, Y2, i6, j6, Z2, a3, b3⟩ := REntryDecl.open u1
    refine S s<|nsw 122 Y2<|nsw 123 Z2<|nsw 124 a3<|nsw 125 b3<|yw q (lP · h2 w2 (e1 0 _ q) u25 q) fun a s => ?_
    refine lV s q func73 (c_r21_lightNames n _ _ s.lt _ _ _ (s.ft 122 q) _ _ Y0) fun a w hK s => ?_
    refine S s<|yw q (fun s => yl_b (y_not s q) j0)<|mw q<|zw q (bF 4 · u38 q)<|zw q (lB 1000 · u34 q)<|hw q fun a s => ?_
    obtain ⟨L6, K1, i2, x2, O5, v1, g1⟩ := SlR.elemX (s.ft 104 q) g0
    refine S s<|zw q (eL 7 b0 · u34 K1 (lt_of_get g0) q)<|zw q (pF 1 · u89 q) fun a s => ?_
    obtain ⟨i4, c5, j4, d5, k4, e5, l4, g5, rfl, c3, k6, l6, d3, e3, g3⟩ := REntryDecl.open v1
    refine S s<|nsw 126 c3<|nsw 127 d3<|nsw 128 e3<|nsw 129 g3<|zw q (lD [_, _, _, _, _, _] 1 · i2 x2 g1 u62 q) fun a s => ?_
    refine gV s q func109 (c_r21_lightDef n _ _ s.lt _ _ _ _ _ _ _ (by omega) (by omega) (s.ft 127 q) (s.ft 128 q) (s.ft 129 q) _ O3) fun a w hK s => ?_
    refine S s<|zw q (y_not · q)<|fw q<|nw fun a s => ?_
    exact ⟨(!(U3)), hg, (s.sb q q q)⟩
   clear s a; rintro a w ⟨U0, hg, s⟩
   subst d2
   refine c_cond s q (fun I0 => ?_) (fun I0 => ?_)
   ·replace hg := br_t hg I0
    refine S s<|vw<|aw q<|nw fun a s => ?_
    apply wp_ret
    refine p_inR ?_
    refine p_thenR ?_
    refine p_thenR ?_
    refine p_inR ?_
    refine p_thenR ?_
    obtain rfl := si hg
    exact fT f76 s q q q
   replace hg := br_n hg I0
   apply wp_skip
   refine p_inN ?_
   refine S s<|pw<|lw<|mw q<|yw q (y_addN (i := b0) (j := 1) · q q (in64.2 (by omega)))<|aw q<|nw fun a s => ?_
   exact ⟨m1, Nat.lt_succ_self _, ⟨(b0 + 1), hg, (s.sb q q q)⟩⟩
  replace hg := br_f hg K0
  apply wp_exit
  refine p_then ?_
  refine p_then ?_
  refine p_in ?_
  apply pN
  exact ⟨hg, (s.sb q q q)⟩
 clear s a; rintro a w ⟨hg, s⟩
 subst X1
 refine S s<|sw<|vw<|aw q<|nw fun a s => ?_
 obtain ⟨a1, hg, Y1⟩ := zJ hg
 refine c_post (fun a w => a1 = some r ∧ St (cx f76 M w0) [(1, vP b2 0)] [(1000, Ob.box b2 B 38)] F a w) ?_ ?_
 ·apply wp_block
  refine c_loop (σ := Nat) (fun m2 a w => ∃ (a0 : Nat), r21_lightWords_L1 n t_ a1 m2 a0 = some r ∧ St (cx f76 M w0) [(1, vP b2 0), (4, vI (((a0 : Nat) : Int)))] [(1000, Ob.box b2 B 38)] F a w) (fun m2 => m2) n ⟨(0), hg, (s.sb q q q)⟩ ?_
  clear s a; rintro m2 a w ⟨a0, hg, s⟩
  rcases m2 with _ | m2
  ·rw [r21_lightWords_L1] at hg; cases hg
  rw [r21_lightWords_L1] at hg
  refine S s<|sw<|vw<|mw q<|yw q (bF 5 · u38 q)<|yw q (lB 1000 · u35 q)<|yw q (lS · q u35)<|yw q (y_lssN (i := a0) (j := ((t_.LexRules).length)) · q q)<|nw fun a s => c_dec s q (fun J0 => ?_) (fun J0 => ?_)
  ·replace hg := br_t hg J0
   have a6 := SlR.mx (s.ft 105 q)
   apply wp_skip
   apply pN
   apply wQ
   obtain ⟨b1, hg, Z1⟩ := zJ hg
   refine c_post (fun a w => b1 = some r ∧ St (cx f76 M w0) [(1, vP b2 0), (4, vI (((a0 : Nat) : Int)))] [(1000, Ob.box b2 B 38)] F a w) ?_ ?_
   ·apply wp_block
    apply wQ
    apply wQ
    obtain ⟨R3, hg, a2⟩ := zJ hg
    refine c_post (fun a w => ∃ (S0 : Bool), R3 S0 = some r ∧ St (cx f76 M w0) [(1, vP b2 0), (4, vI (((a0 : Nat) : Int))), (57, .bool (S0))] [(1000, Ob.box b2 B 38)] F a w) ?_ ?_
    ·obtain ⟨V0, h0, hg⟩ := zB hg
     rcases Decidable.em ((20 : Nat) < ((V0.Affix.Pairs).length)) with k0 | k0
     ·have Q0 := decide_eq_true k0
      replace hg := br_t hg k0
      refine S s<|lw<|yw q (bF 5 · u38 q)<|yw q (lB 1000 · u35 q)<|mw q fun a s => ?_
      obtain ⟨M6, L1, j2, y2, P5, w1, h1⟩ := SlR.elemX (s.ft 105 q) h0
      refine S s<|yw q (eL 8 a0 · u35 L1 (lt_of_get h0) q)<|yw q (pF 0 · u94 q)<|yw q (pF 1 · u92 q) fun a s => ?_
      obtain ⟨n4, h5, o4, i5, p4, j5, q4, k5, rfl, h3, m6, n6, i3, j3, l3⟩ := RLexDecl.open w1
      refine S s<|nsw 134 h3<|nsw 135 i3<|nsw 136 j3<|nsw 137 l3<|yw q (lP · j2 y2 (h1 1 _ q) u90 q)<|yw q (lS · q u90)<|yw q (fun s => yl_b (y_gtrN (i := ((V0.Affix.Pairs).length)) (j := 20) s q q) Q0)<|mw q<|gw q<|gw q<|gw q<|gw q<|gw q<|gw q<|gw q<|gw q<|tw_ q<|nw fun a s => ?_
      exact ⟨(true), hg, (s.sb q q q)⟩
     have Q0 := decide_eq_false k0
     replace hg := br_f hg k0
     obtain ⟨V3, P3, hg⟩ := zB hg
     refine S s<|lw<|yw q (bF 5 · u38 q)<|yw q (lB 1000 · u35 q)<|mw q fun a s => ?_
     obtain ⟨O6, M1, k2, z2, Q5, x1, i1⟩ := SlR.elemX (s.ft 105 q) h0
     refine S s<|yw q (eL 8 a0 · u35 M1 (lt_of_get h0) q)<|yw q (pF 0 · u94 q)<|yw q (pF 1 · u92 q) fun a s => ?_
     obtain ⟨r4, l5, s4, m5, t4, n5, v4, o5, rfl, n3, o6, p6, o3, p3, q3⟩ := RLexDecl.open x1
     refine S s<|nsw 142 n3<|nsw 143 o3<|nsw 144 p3<|nsw 145 q3<|yw q (lP · k2 z2 (i1 1 _ q) u90 q)<|yw q (lS · q u90)<|yw q (fun s => yl_b (y_gtrN (i := ((V0.Affix.Pairs).length)) (j := 20) s q q) Q0)<|mw q<|zw q (bF 5 · u38 q)<|zw q (lB 1000 · u35 q)<|hw q fun a s => ?_
     obtain ⟨P6, O1, l2, B2, R5, y1, j1⟩ := SlR.elemX (s.ft 105 q) h0
     refine S s<|zw q (eL 8 a0 · u35 O1 (lt_of_get h0) q)<|zw q (pF 2 · u94 q) fun a s => ?_
     obtain ⟨w4, p5, x4, q5, y4, r5, z4, s5, rfl, r3, q6, r6, s3, t3, v3⟩ := RLexDecl.open y1
     refine S s<|nsw 146 r3<|nsw 147 s3<|nsw 148 t3<|nsw 149 v3<|zw q (lD [_, _, _, _, _, _] 2 · l2 B2 j1 u62 q) fun a s => ?_
     refine gV s q func109 (c_r21_lightDef n _ _ s.lt _ _ _ _ _ _ _ (by omega) (by omega) (s.ft 147 q) (s.ft 148 q) (s.ft 149 q) _ P3) fun a w hK s => ?_
     refine S s<|zw q (y_not · q)<|fw q<|nw fun a s => ?_
     exact ⟨(!(V3)), hg, (s.sb q q q)⟩
    clear s a; rintro a w ⟨S0, hg, s⟩
    subst a2
    refine c_cond s q (fun L0 => ?_) (fun L0 => ?_)
    ·replace hg := br_t hg L0
     refine S s<|vw<|aw q<|nw fun a s => ?_
     apply wp_ret
     refine p_thenR ?_
     refine p_inR ?_
     refine p_thenR ?_
     refine p_thenR ?_
     refine p_inR ?_
     refine p_thenR ?_
     obtain rfl := si hg
     exact fT f76 s q q q
    replace hg := br_n hg L0
    refine S s<|kw<|pw<|vw<|aw q<|nw<|bw fun a s => ?_
    refine c_loop (σ := Nat) (fun m3 a w => ∃ (c0 : Nat), r21_lightWords_L2 n t_ a0 b1 m3 c0 = some r ∧ St (cx f76 M w0) [(1, vP b2 0), (4, vI (((a0 : Nat) : Int))), (5, vI (((c0 : Nat) : Int)))] [(1000, Ob.box b2 B 38)] F a w) (fun m3 => m3) n ⟨(0), hg, (s.sb q q q)⟩ ?_
    clear s a; rintro m3 a w ⟨c0, hg, s⟩
    rcases m3 with _ | m3
    ·rw [r21_lightWords_L2] at hg; cases hg
    rw [r21_lightWords_L2] at hg
    obtain ⟨X3, d0, hg⟩ := zB hg
    refine S s<|sw<|sw<|lw<|mw q<|yw q (bF 5 · u38 q)<|yw q (lB 1000 · u35 q)<|mw q fun a s => ?_
    obtain ⟨Q6, P1, n2, C2, S5, z1, k1⟩ := SlR.elemX (s.ft 105 q) d0
    refine S s<|yw q (eL 8 a0 · u35 P1 (lt_of_get d0) q)<|yw q (pF 0 · u94 q)<|yw q (pF 1 · u92 q) fun a s => ?_
    obtain ⟨B4, t5, C4, u5, D4, v5, E4, w5, rfl, w3, s6, t6, x3, y3, z3⟩ := RLexDecl.open z1
    refine S s<|nsw 154 w3<|nsw 155 x3<|nsw 156 y3<|nsw 157 z3<|yw q (lP · n2 C2 (k1 1 _ q) u90 q)<|yw q (lS · q u90)<|yw q (y_lssN (i := c0) (j := ((X3.Affix.Pairs).length)) · q q)<|nw fun a s => c_dec s q (fun M0 => ?_) (fun M0 => ?_)
    ·replace hg := br_t hg M0
     have c6 := SlR.mx (s.ft 154 q)
     refine S s<|kw<|pw<|sw<|bw<|sw fun a s => ?_
     obtain ⟨S3, hg, c2⟩ := zJ hg
     refine c_post (fun a w => ∃ (T0 : Bool), S3 T0 = some r ∧ St (cx f76 M w0) [(1, vP b2 0), (4, vI (((a0 : Nat) : Int))), (5, vI (((c0 : Nat) : Int))), (97, .bool (T0))] [(1000, Ob.box b2 B 38)] F a w) ?_ ?_
     ·obtain ⟨m0, i0, hg⟩ := zB hg
      rcases Decidable.em ((100 : Nat) < ((m0.Old).length)) with l0 | l0
      ·have R0 := decide_eq_true l0
       replace hg := br_t hg l0
       refine S s<|lw<|yw q (bF 5 · u38 q)<|yw q (lB 1000 · u35 q)<|mw q fun a s => ?_
       obtain ⟨R6, Q1, o2, D2, T5, B1, l1⟩ := SlR.elemX (s.ft 105 q) d0
       refine S s<|yw q (eL 8 a0 · u35 Q1 (lt_of_get d0) q)<|yw q (pF 0 · u94 q)<|yw q (pF 1 · u92 q) fun a s => ?_
       obtain ⟨F4, x5, G4, y5, H4, z5, I4, B5, rfl, B3, u6, v6, C3, D3, E3⟩ := RLexDecl.open B1
       refine S s<|nsw 162 B3<|nsw 163 C3<|nsw 164 D3<|nsw 165 E3<|yw q (lP · o2 D2 (l1 1 _ q) u90 q)<|mw q fun a s => ?_
       obtain ⟨S6, R1, p2, E2, U5, C1, n1⟩ := SlR.elemX (s.ft 162 q) i0
       refine S s<|yw q (eL 2 c0 · u90 R1 (lt_of_get i0) q)<|yw q (pF 0 · u144 q) fun a s => ?_
       obtain ⟨rfl, w6, x6⟩ := RChange.open C1
       refine S s<|yw q (lP · p2 E2 (n1 0 _ q) u9 q)<|yw q (y_lenStrN · q u9)<|yw q (fun s => yl_b (y_gtrN (i := ((m0.Old).length)) (j := 100) s q q) R0)<|mw q<|gw q<|gw q<|gw q<|gw q<|gw q<|gw q<|gw q<|gw q<|gw q<|gw q<|gw q<|gw q<|gw q<|tw_ q<|nw fun a s => ?_
       exact ⟨(true), hg, (s.sb q q q)⟩
      have R0 := decide_eq_false l0
      replace hg := br_f hg l0
      refine S s<|lw<|yw q (bF 5 · u38 q)<|yw q (lB 1000 · u35 q)<|mw q fun a s => ?_
      obtain ⟨T6, S1, q2, F2, V5, D1, o1⟩ := SlR.elemX (s.ft 105 q) d0
      refine S s<|yw q (eL 8 a0 · u35 S1 (lt_of_get d0) q)<|yw q (pF 0 · u94 q)<|yw q (pF 1 · u92 q) fun a s => ?_
      obtain ⟨J4, C5, K4, D5, L4, E5, M4, F5, rfl, F3, y6, z6, G3, H3, I3⟩ := RLexDecl.open D1
      refine S s<|nsw 170 F3<|nsw 171 G3<|nsw 172 H3<|nsw 173 I3<|yw q (lP · q2 F2 (o1 1 _ q) u90 q)<|mw q fun a s => ?_
      obtain ⟨U6, T1, r2, G2, X5, E1, p1⟩ := SlR.elemX (s.ft 170 q) i0
      refine S s<|yw q (eL 2 c0 · u90 T1 (lt_of_get i0) q)<|yw q (pF 0 · u144 q) fun a s => ?_
      obtain ⟨rfl, B6, C6⟩ := RChange.open E1
      refine S s<|yw q (lP · r2 G2 (p1 0 _ q) u9 q)<|yw q (y_lenStrN · q u9)<|yw q (fun s => yl_b (y_gtrN (i := ((m0.Old).length)) (j := 100) s q q) R0)<|mw q<|zw q (bF 5 · u38 q)<|zw q (lB 1000 · u35 q)<|hw q fun a s => ?_
      obtain ⟨V6, U1, s2, H2, Y5, F1, q1⟩ := SlR.elemX (s.ft 105 q) d0
      refine S s<|zw q (eL 8 a0 · u35 U1 (lt_of_get d0) q)<|zw q (pF 0 · u94 q)<|zw q (pF 1 · u92 q) fun a s => ?_
      obtain ⟨O4, G5, P4, H5, Q4, I5, R4, J5, rfl, J3, D6, E6, K3, L3, M3⟩ := RLexDecl.open F1
      refine S s<|nsw 174 J3<|nsw 175 K3<|nsw 176 L3<|nsw 177 M3<|zw q (lP · s2 H2 (q1 1 _ q) u90 q)<|hw q fun a s => ?_
      obtain ⟨X6, V1, t2, I2, Z5, G1, r1⟩ := SlR.elemX (s.ft 174 q) i0
      refine S s<|zw q (eL 2 c0 · u90 V1 (lt_of_get i0) q)<|zw q (pF 1 · u144 q) fun a s => ?_
      obtain ⟨rfl, F6, G6⟩ := RChange.open G1
      refine S s<|zw q (lP · t2 I2 (r1 1 _ q) u9 q)<|zw q (y_lenStrN · q u9)<|zw q (y_gtrN (i := ((m0.New).length)) (j := 100) · q q)<|fw q<|nw fun a s => ?_
      exact ⟨(decide ((100 : Nat) < ((m0.New).length))), hg, (s.sb q q q)⟩
     clear s a; rintro a w ⟨T0, hg, s⟩
     subst c2
     refine c_cond s q (fun O0 => ?_) (fun O0 => ?_)
     ·replace hg := br_t hg O0
      refine S s<|vw<|aw q<|nw fun a s => ?_
      apply wp_ret
      refine p_inR ?_
      refine p_thenR ?_
      refine p_thenR ?_
      refine p_inR ?_
      refine p_inR ?_
      refine p_thenR ?_
      refine p_thenR ?_
      refine p_inR ?_
      refine p_thenR ?_
      obtain rfl := si hg
      exact fT f76 s q q q
     replace hg := br_n hg O0
     apply wp_skip
     refine p_inN ?_
     refine S s<|pw<|lw<|mw q<|yw q (y_addN (i := c0) (j := 1) · q q (in64.2 (by omega)))<|aw q<|nw fun a s => ?_
     exact ⟨m3, Nat.lt_succ_self _, ⟨(c0 + 1), hg, (s.sb q q q)⟩⟩
    replace hg := br_f hg M0
    apply wp_exit
    refine p_then ?_
    refine p_then ?_
    refine p_in ?_
    refine p_inN ?_
    apply pN
    exact ⟨hg, (s.sb q q q)⟩
   clear s a; rintro a w ⟨hg, s⟩
   subst Z1
   refine S s<|lw<|mw q<|yw q (y_addN (i := a0) (j := 1) · q q (in64.2 (by omega)))<|aw q<|nw fun a s => ?_
   exact ⟨m2, Nat.lt_succ_self _, ⟨(a0 + 1), hg, (s.sb q q q)⟩⟩
  replace hg := br_f hg J0
  apply wp_exit
  refine p_then ?_
  refine p_then ?_
  refine p_in ?_
  apply pN
  exact ⟨hg, (s.sb q q q)⟩
 clear s a; rintro a w ⟨hg, s⟩
 subst Y1
 refine S s<|sw<|vw<|aw q<|nw<|bw fun a s => ?_
 refine c_loop (σ := Nat) (fun m4 a w => ∃ (e0 : Nat), r21_lightWords_L3 n t_ m4 e0 = some r ∧ St (cx f76 M w0) [(1, vP b2 0), (6, vI (((e0 : Nat) : Int)))] [(1000, Ob.box b2 B 38)] F a w) (fun m4 => m4) n ⟨(0), hg, (s.sb q q q)⟩ ?_
 clear s a; rintro m4 a w ⟨e0, hg, s⟩
 rcases m4 with _ | m4
 ·rw [r21_lightWords_L3] at hg; cases hg
 rw [r21_lightWords_L3] at hg
 refine S s<|sw<|vw<|mw q<|yw q (bF 8 · u38 q)<|yw q (lB 1000 · u36 q)<|yw q (lS · q u36)<|yw q (y_lssN (i := e0) (j := ((t_.Checks).length)) · q q)<|nw fun a s => c_dec s q (fun P0 => ?_) (fun P0 => ?_)
 ·replace hg := br_t hg P0
  have d6 := SlR.mx (s.ft 108 q)
  obtain ⟨a7, Z0, hg⟩ := zB hg
  obtain ⟨Y6, Q3, hg⟩ := zB hg
  refine S s<|kw<|pw<|sw<|bw<|sw<|lw<|yw q (bF 8 · u38 q)<|yw q (lB 1000 · u36 q)<|mw q fun a s => ?_
  obtain ⟨I6, H1, e2, u2, K5, s1, c1⟩ := SlR.elemX (s.ft 108 q) Z0
  refine qq s q (eL 1 e0 s u36 H1 (lt_of_get Z0) q) fun a s => ?_
  obtain ⟨Y3, H6, S4, rfl, X0⟩ := s1
  obtain rfl := X0.len
  refine S s<|nsw 179 X0<|yw q (lP · e2 u2 (c1 0 _ q) u25 q) fun a s => ?_
  refine lV s q func73 (c_r21_lightNames n _ _ s.lt _ _ _ (s.ft 179 q) _ _ Q3) fun a w hK s => ?_
  refine S s<|yw q (y_not · q)<|nw fun a s => c_cond s q (fun H0 => ?_) (fun H0 => ?_)
  ·replace hg := br_t hg H0
   refine S s<|vw<|aw q<|nw fun a s => ?_
   apply wp_ret
   refine p_inR ?_
   refine p_thenR ?_
   refine p_thenR ?_
   refine p_inR ?_
   refine p_thenR ?_
   obtain rfl := si hg
   exact fT f76 s q q q
  replace hg := br_n hg H0
  apply wp_skip
  refine p_inN ?_
  refine S s<|pw<|lw<|mw q<|yw q (y_addN (i := e0) (j := 1) · q q (in64.2 (by omega)))<|aw q<|nw fun a s => ?_
  exact ⟨m4, Nat.lt_succ_self _, ⟨(e0 + 1), hg, (s.sb q q q)⟩⟩
 replace hg := br_f hg P0
 apply wp_exit
 refine p_then ?_
 refine p_then ?_
 refine p_in ?_
 refine S s<|pw<|vw<|aw q<|nw fun a s => ?_
 apply wp_ret
 obtain rfl := si hg
 exact fT f76 s q q q
theorem c_r21_LightModule (n : Nat) (M : Bs) (w0 : World) (hM : bM M w0) (m_ : Module) (r0 : OA) (C0 : Nat) (s0 : OA) (D0 : Nat) (t0 : OA) (E0 : Nat) (u0 : OA) (F0 : Nat) (v0 : OA) (G0 : Nat) (x0 : OA) (H0 : Nat) (y0 : OA) (I0 : Nat) (z0 : OA) (J0 : Nat) (q0 : OA) (B0 : Nat) (d1 : (m_.Name).length ≤ 9223372036854775807) (O0 : sR Rep.str M w0 r0 C0 m_.Imports) (P0 : sR RTypeDecl M w0 s0 D0 m_.Types) (Q0 : sR RDef M w0 t0 E0 m_.Templates) (R0 : sR REntryDecl M w0 u0 F0 m_.Entries) (S0 : sR RLexDecl M w0 v0 G0 m_.LexRules) (T0 : sR RDef M w0 x0 H0 m_.Rules) (U0 : sR RDef M w0 y0 I0 m_.Roots) (V0 : sR (Rep.list Rep.str) M w0 z0 J0 m_.Checks) (M0 : sR Rep.str M w0 q0 B0 m_.Drops) (r : Bool) (hg : r21_LightModule n m_ = some r) :
    CA Tryz.prog 51 [.agg #[vT m_.Name, sl r0 m_.Imports C0, sl s0 m_.Types D0, sl t0 m_.Templates E0, sl u0 m_.Entries F0, sl v0 m_.LexRules G0, sl x0 m_.Rules H0, sl y0 m_.Roots I0, sl z0 m_.Checks J0, sl q0 m_.Drops B0]] w0 (fun v w => v = .bool (r)) := by
 unfold r21_LightModule at hg
 refine enter M noB func51 q q hM ?_
 intro a s
 refine S s<|esw 101 O0<|esw 102 P0<|esw 103 Q0<|esw 104 R0<|esw 105 S0<|esw 106 T0<|esw 107 U0<|esw 108 V0<|esw 109 M0<|vw fun a s => ?_
 refine l_seq q (l_box (zs := [vT m_.Name, sl r0 m_.Imports C0, sl s0 m_.Types D0, sl t0 m_.Templates E0, sl u0 m_.Entries F0, sl v0 m_.LexRules G0, sl x0 m_.Rules H0, sl y0 m_.Roots I0, sl z0 m_.Checks J0, sl q0 m_.Drops B0]) s 1000 q q q q fun b2 a w hb hK s => ?_)
 refine S s<|aw q<|nw<|sw fun a s => ?_
 rcases Decidable.em (((m_.Name).length) ≤ 100) with m0 | m0
 ·have b0 := decide_eq_true m0
  replace hg := br_t hg m0
  obtain ⟨r4, e0, hg⟩ := zB hg
  rcases Decidable.em (r4 ≤ 300) with o0 | o0
  ·have d0 := decide_eq_true o0
   replace hg := br_t hg o0
   obtain ⟨r8, h0, hg⟩ := zB hg
   rcases Bool.eq_false_or_eq_true (r8) with a0 | a0
   ·replace hg := br_t hg a0
    obtain ⟨Y0, j0, hg⟩ := zB hg
    rcases Bool.eq_false_or_eq_true (Y0) with c0 | c0
    ·replace hg := br_t hg c0
     obtain ⟨Z0, l0, hg⟩ := zB hg
     rcases Bool.eq_false_or_eq_true (Z0) with g0 | g0
     ·replace hg := br_t hg g0
      obtain ⟨a1, p0, hg⟩ := zB hg
      rcases Bool.eq_false_or_eq_true (a1) with i0 | i0
      ·replace hg := br_t hg i0
       obtain ⟨b1, K0, hg⟩ := zB hg
       rcases Bool.eq_false_or_eq_true (b1) with k0 | k0
       ·replace hg := br_t hg k0
        obtain ⟨c1, L0, hg⟩ := zB hg
        rcases Bool.eq_false_or_eq_true (c1) with n0 | n0
        ·replace hg := br_t hg n0
         obtain ⟨e1, X0, hg⟩ := zB hg
         refine S s<|lw<|yw q (bF 0 · u38 q)<|yw q (lB 1000 · u9 q)<|yw q (y_lenStrN · q u9)<|yw q (fun s => yl_b (y_leqN (i := ((m_.Name).length)) (j := 100) s q q) b0)<|mw q<|zw q (y_loadAll (kk := 1000) · q q u38 q q) fun a s => ?_
         refine gV s q func52 (c_r21_count n _ _ s.lt _ _ _ _ _ _ _ _ _ _ _ _ _ _ _ _ _ _ _ (by omega) (s.ft 101 q) (s.ft 102 q) (s.ft 103 q) (s.ft 104 q) (s.ft 105 q) (s.ft 106 q) (s.ft 107 q) (s.ft 108 q) (s.ft 109 q) _ e0) fun a w hK s => ?_
         refine S s<|zw q (fun s => yl_b (y_leq s q q) d0)<|tw_ q<|mw q<|zw q (bF 1 · u38 q)<|zw q (lB 1000 · u25 q) fun a s => ?_
         refine gC s q func73 (c_r21_lightNames n _ _ s.lt _ _ _ (s.ft 101 q) _ _ h0) fun h1 a w hK hp s => ?_
         obtain rfl := hp.trans (congrArg Value.bool a0)
         refine S s<|tw_ q<|mw q<|zw q (bF 9 · u38 q)<|zw q (lB 1000 · u25 q) fun a s => ?_
         refine gC s q func73 (c_r21_lightNames n _ _ s.lt _ _ _ (s.ft 109 q) _ _ j0) fun i1 a w hK hp s => ?_
         obtain rfl := hp.trans (congrArg Value.bool c0)
         refine S s<|tw_ q<|mw q<|zw q (bF 2 · u38 q)<|zw q (lB 1000 · u32 q) fun a s => ?_
         refine gC s q func74 (c_r21_lightTypes n _ _ s.lt _ _ _ (s.ft 102 q) _ l0) fun j1 a w hK hp s => ?_
         obtain rfl := hp.trans (congrArg Value.bool g0)
         refine S s<|tw_ q<|mw q<|zw q (bF 3 · u38 q)<|zw q (lB 1000 · u33 q) fun a s => ?_
         refine gC s q func75 (c_r21_lightDefs n _ _ s.lt _ _ _ (s.ft 103 q) _ p0) fun k1 a w hK hp s => ?_
         obtain rfl := hp.trans (congrArg Value.bool i0)
         refine S s<|tw_ q<|mw q<|zw q (bF 6 · u38 q)<|zw q (lB 1000 · u33 q) fun a s => ?_
         refine gC s q func75 (c_r21_lightDefs n _ _ s.lt _ _ _ (s.ft 106 q) _ K0) fun l1 a w hK hp s => ?_
         obtain rfl := hp.trans (congrArg Value.bool k0)
         refine S s<|tw_ q<|mw q<|zw q (bF 7 · u38 q)<|zw q (lB 1000 · u33 q) fun a s => ?_
         refine gC s q func75 (c_r21_lightDefs n _ _ s.lt _ _ _ (s.ft 107 q) _ L0) fun m1 a w hK hp s => ?_
         obtain rfl := hp.trans (congrArg Value.bool n0)
         refine S s<|tw_ q<|mw q<|zw q (y_loadAll (kk := 1000) · q q u38 q q) fun a s => ?_
         refine gV s q func76 (c_r21_lightWords n _ _ s.lt _ _ _ _ _ _ _ _ _ _ _ _ _ _ _ _ _ _ _ (by omega) (s.ft 101 q) (s.ft 102 q) (s.ft 103 q) (s.ft 104 q) (s.ft 105 q) (s.ft 106 q) (s.ft 107 q) (s.ft 108 q) (s.ft 109 q) _ X0) fun a w hK s => ?_
         refine S s<|tw_ q<|aw q<|nw fun a s => ?_
         apply wp_ret
         obtain rfl := si hg
         exact fT f51 s q q q
        replace hg := br_n hg n0
        refine S s<|lw<|yw q (bF 0 · u38 q)<|yw q (lB 1000 · u9 q)<|yw q (y_lenStrN · q u9)<|yw q (fun s => yl_b (y_leqN (i := ((m_.Name).length)) (j := 100) s q q) b0)<|mw q<|zw q (y_loadAll (kk := 1000) · q q u38 q q) fun a s => ?_
        refine gV s q func52 (c_r21_count n _ _ s.lt _ _ _ _ _ _ _ _ _ _ _ _ _ _ _ _ _ _ _ (by omega) (s.ft 101 q) (s.ft 102 q) (s.ft 103 q) (s.ft 104 q) (s.ft 105 q) (s.ft 106 q) (s.ft 107 q) (s.ft 108 q) (s.ft 109 q) _ e0) fun a w hK s => ?_
        refine S s<|zw q (fun s => yl_b (y_leq s q q) d0)<|tw_ q<|mw q<|zw q (bF 1 · u38 q)<|zw q (lB 1000 · u25 q) fun a s => ?_
        refine gC s q func73 (c_r21_lightNames n _ _ s.lt _ _ _ (s.ft 101 q) _ _ h0) fun n1 a w hK hp s => ?_
        obtain rfl := hp.trans (congrArg Value.bool a0)
        refine S s<|tw_ q<|mw q<|zw q (bF 9 · u38 q)<|zw q (lB 1000 · u25 q) fun a s => ?_
        refine gC s q func73 (c_r21_lightNames n _ _ s.lt _ _ _ (s.ft 109 q) _ _ j0) fun o1 a w hK hp s => ?_
        obtain rfl := hp.trans (congrArg Value.bool c0)
        refine S s<|tw_ q<|mw q<|zw q (bF 2 · u38 q)<|zw q (lB 1000 · u32 q) fun a s => ?_
        refine gC s q func74 (c_r21_lightTypes n _ _ s.lt _ _ _ (s.ft 102 q) _ l0) fun p1 a w hK hp s => ?_
        obtain rfl := hp.trans (congrArg Value.bool g0)
        refine S s<|tw_ q<|mw q<|zw q (bF 3 · u38 q)<|zw q (lB 1000 · u33 q) fun a s => ?_
        refine gC s q func75 (c_r21_lightDefs n _ _ s.lt _ _ _ (s.ft 103 q) _ p0) fun q1 a w hK hp s => ?_
        obtain rfl := hp.trans (congrArg Value.bool i0)
        refine S s<|tw_ q<|mw q<|zw q (bF 6 · u38 q)<|zw q (lB 1000 · u33 q) fun a s => ?_
        refine gC s q func75 (c_r21_lightDefs n _ _ s.lt _ _ _ (s.ft 106 q) _ K0) fun r1 a w hK hp s => ?_
        obtain rfl := hp.trans (congrArg Value.bool k0)
        refine S s<|tw_ q<|mw q<|zw q (bF 7 · u38 q)<|zw q (lB 1000 · u33 q) fun a s => ?_
        refine gC s q func75 (c_r21_lightDefs n _ _ s.lt _ _ _ (s.ft 107 q) _ L0) fun s1 a w hK hp s => ?_
        obtain rfl := hp.trans (congrArg Value.bool n0)
        refine S s<|tw_ q<|mw q<|gw q<|gw q<|fw q<|aw q<|nw fun a s => ?_
        apply wp_ret
        obtain rfl := si hg
        exact fT f51 s q q q
       replace hg := br_n hg k0
       refine S s<|lw<|yw q (bF 0 · u38 q)<|yw q (lB 1000 · u9 q)<|yw q (y_lenStrN · q u9)<|yw q (fun s => yl_b (y_leqN (i := ((m_.Name).length)) (j := 100) s q q) b0)<|mw q<|zw q (y_loadAll (kk := 1000) · q q u38 q q) fun a s => ?_
       refine gV s q func52 (c_r21_count n _ _ s.lt _ _ _ _ _ _ _ _ _ _ _ _ _ _ _ _ _ _ _ (by omega) (s.ft 101 q) (s.ft 102 q) (s.ft 103 q) (s.ft 104 q) (s.ft 105 q) (s.ft 106 q) (s.ft 107 q) (s.ft 108 q) (s.ft 109 q) _ e0) fun a w hK s => ?_
       refine S s<|zw q (fun s => yl_b (y_leq s q q) d0)<|tw_ q<|mw q<|zw q (bF 1 · u38 q)<|zw q (lB 1000 · u25 q) fun a s => ?_
       refine gC s q func73 (c_r21_lightNames n _ _ s.lt _ _ _ (s.ft 101 q) _ _ h0) fun t1 a w hK hp s => ?_
       obtain rfl := hp.trans (congrArg Value.bool a0)
       refine S s<|tw_ q<|mw q<|zw q (bF 9 · u38 q)<|zw q (lB 1000 · u25 q) fun a s => ?_
       refine gC s q func73 (c_r21_lightNames n _ _ s.lt _ _ _ (s.ft 109 q) _ _ j0) fun u1 a w hK hp s => ?_
       obtain rfl := hp.trans (congrArg Value.bool c0)
       refine S s<|tw_ q<|mw q<|zw q (bF 2 · u38 q)<|zw q (lB 1000 · u32 q) fun a s => ?_
       refine gC s q func74 (c_r21_lightTypes n _ _ s.lt _ _ _ (s.ft 102 q) _ l0) fun v1 a w hK hp s => ?_
       obtain rfl := hp.trans (congrArg Value.bool g0)
       refine S s<|tw_ q<|mw q<|zw q (bF 3 · u38 q)<|zw q (lB 1000 · u33 q) fun a s => ?_
       refine gC s q func75 (c_r21_lightDefs n _ _ s.lt _ _ _ (s.ft 103 q) _ p0) fun w1 a w hK hp s => ?_
       obtain rfl := hp.trans (congrArg Value.bool i0)
       refine S s<|tw_ q<|mw q<|zw q (bF 6 · u38 q)<|zw q (lB 1000 · u33 q) fun a s => ?_
       refine gC s q func75 (c_r21_lightDefs n _ _ s.lt _ _ _ (s.ft 106 q) _ K0) fun x1 a w hK hp s => ?_
       obtain rfl := hp.trans (congrArg Value.bool k0)
       refine S s<|tw_ q<|mw q<|gw q<|gw q<|gw q<|fw q<|mw q<|gw q<|gw q<|fw q<|aw q<|nw fun a s => ?_
       apply wp_ret
       obtain rfl := si hg
       exact fT f51 s q q q
      replace hg := br_n hg i0
      refine S s<|lw<|yw q (bF 0 · u38 q)<|yw q (lB 1000 · u9 q)<|yw q (y_lenStrN · q u9)<|yw q (fun s => yl_b (y_leqN (i := ((m_.Name).length)) (j := 100) s q q) b0)<|mw q<|zw q (y_loadAll (kk := 1000) · q q u38 q q) fun a s => ?_
      refine gV s q func52 (c_r21_count n _ _ s.lt _ _ _ _ _ _ _ _ _ _ _ _ _ _ _ _ _ _ _ (by omega) (s.ft 101 q) (s.ft 102 q) (s.ft 103 q) (s.ft 104 q) (s.ft 105 q) (s.ft 106 q) (s.ft 107 q) (s.ft 108 q) (s.ft 109 q) _ e0) fun a w hK s => ?_
      refine S s<|zw q (fun s => yl_b (y_leq s q q) d0)<|tw_ q<|mw q<|zw q (bF 1 · u38 q)<|zw q (lB 1000 · u25 q) fun a s => ?_
      refine gC s q func73 (c_r21_lightNames n _ _ s.lt _ _ _ (s.ft 101 q) _ _ h0) fun y1 a w hK hp s => ?_
      obtain rfl := hp.trans (congrArg Value.bool a0)
      refine S s<|tw_ q<|mw q<|zw q (bF 9 · u38 q)<|zw q (lB 1000 · u25 q) fun a s => ?_
      refine gC s q func73 (c_r21_lightNames n _ _ s.lt _ _ _ (s.ft 109 q) _ _ j0) fun z1 a w hK hp s => ?_
      obtain rfl := hp.trans (congrArg Value.bool c0)
      refine S s<|tw_ q<|mw q<|zw q (bF 2 · u38 q)<|zw q (lB 1000 · u32 q) fun a s => ?_
      refine gC s q func74 (c_r21_lightTypes n _ _ s.lt _ _ _ (s.ft 102 q) _ l0) fun B1 a w hK hp s => ?_
      obtain rfl := hp.trans (congrArg Value.bool g0)
      refine S s<|tw_ q<|mw q<|zw q (bF 3 · u38 q)<|zw q (lB 1000 · u33 q) fun a s => ?_
      refine gC s q func75 (c_r21_lightDefs n _ _ s.lt _ _ _ (s.ft 103 q) _ p0) fun C1 a w hK hp s => ?_
      obtain rfl := hp.trans (congrArg Value.bool i0)
      refine S s<|tw_ q<|mw q<|gw q<|gw q<|gw q<|fw q<|mw q<|gw q<|gw q<|gw q<|fw q<|mw q<|gw q<|gw q<|fw q<|aw q<|nw fun a s => ?_
      apply wp_ret
      obtain rfl := si hg
      exact fT f51 s q q q
     replace hg := br_n hg g0
     refine S s<|lw<|yw q (bF 0 · u38 q)<|yw q (lB 1000 · u9 q)<|yw q (y_lenStrN · q u9)<|yw q (fun s => yl_b (y_leqN (i := ((m_.Name).length)) (j := 100) s q q) b0)<|mw q<|zw q (y_loadAll (kk := 1000) · q q u38 q q) fun a s => ?_
     refine gV s q func52 (c_r21_count n _ _ s.lt _ _ _ _ _ _ _ _ _ _ _ _ _ _ _ _ _ _ _ (by omega) (s.ft 101 q) (s.ft 102 q) (s.ft 103 q) (s.ft 104 q) (s.ft 105 q) (s.ft 106 q) (s.ft 107 q) (s.ft 108 q) (s.ft 109 q) _ e0) fun a w hK s => ?_
     refine S s<|zw q (fun s => yl_b (y_leq s q q) d0)<|tw_ q<|mw q<|zw q (bF 1 · u38 q)<|zw q (lB 1000 · u25 q) fun a s => ?_
     refine gC s q func73 (c_r21_lightNames n _ _ s.lt _ _ _ (s.ft 101 q) _ _ h0) fun D1 a w hK hp s => ?_
     obtain rfl := hp.trans (congrArg Value.bool a0)
     refine S s<|tw_ q<|mw q<|zw q (bF 9 · u38 q)<|zw q (lB 1000 · u25 q) fun a s => ?_
     refine gC s q func73 (c_r21_lightNames n _ _ s.lt _ _ _ (s.ft 109 q) _ _ j0) fun E1 a w hK hp s => ?_
     obtain rfl := hp.trans (congrArg Value.bool c0)
     refine S s<|tw_ q<|mw q<|zw q (bF 2 · u38 q)<|zw q (lB 1000 · u32 q) fun a s => ?_
     refine gC s q func74 (c_r21_lightTypes n _ _ s.lt _ _ _ (s.ft 102 q) _ l0) fun F1 a w hK hp s => ?_
     obtain rfl := hp.trans (congrArg Value.bool g0)
     refine S s<|tw_ q<|mw q<|gw q<|gw q<|gw q<|fw q<|mw q<|gw q<|gw q<|gw q<|fw q<|mw q<|gw q<|gw q<|gw q<|fw q<|mw q<|gw q<|gw q<|fw q<|aw q<|nw fun a s => ?_
     apply wp_ret
     obtain rfl := si hg
     exact fT f51 s q q q
    replace hg := br_n hg c0
    refine S s<|lw<|yw q (bF 0 · u38 q)<|yw q (lB 1000 · u9 q)<|yw q (y_lenStrN · q u9)<|yw q (fun s => yl_b (y_leqN (i := ((m_.Name).length)) (j := 100) s q q) b0)<|mw q<|zw q (y_loadAll (kk := 1000) · q q u38 q q) fun a s => ?_
    refine gV s q func52 (c_r21_count n _ _ s.lt _ _ _ _ _ _ _ _ _ _ _ _ _ _ _ _ _ _ _ (by omega) (s.ft 101 q) (s.ft 102 q) (s.ft 103 q) (s.ft 104 q) (s.ft 105 q) (s.ft 106 q) (s.ft 107 q) (s.ft 108 q) (s.ft 109 q) _ e0) fun a w hK s => ?_
    refine S s<|zw q (fun s => yl_b (y_leq s q q) d0)<|tw_ q<|mw q<|zw q (bF 1 · u38 q)<|zw q (lB 1000 · u25 q) fun a s => ?_
    refine gC s q func73 (c_r21_lightNames n _ _ s.lt _ _ _ (s.ft 101 q) _ _ h0) fun G1 a w hK hp s => ?_
    obtain rfl := hp.trans (congrArg Value.bool a0)
    refine S s<|tw_ q<|mw q<|zw q (bF 9 · u38 q)<|zw q (lB 1000 · u25 q) fun a s => ?_
    refine gC s q func73 (c_r21_lightNames n _ _ s.lt _ _ _ (s.ft 109 q) _ _ j0) fun H1 a w hK hp s => ?_
    obtain rfl := hp.trans (congrArg Value.bool c0)
    refine S s<|tw_ q<|mw q<|gw q<|gw q<|gw q<|fw q<|mw q<|gw q<|gw q<|gw q<|fw q<|mw q<|gw q<|gw q<|gw q<|fw q<|mw q<|gw q<|gw q<|gw q<|fw q<|mw q<|gw q<|gw q<|fw q<|aw q<|nw fun a s => ?_
    apply wp_ret
    obtain rfl := si hg
    exact fT f51 s q q q
   replace hg := br_n hg a0
   refine S s<|lw<|yw q (bF 0 · u38 q)<|yw q (lB 1000 · u9 q)<|yw q (y_lenStrN · q u9)<|yw q (fun s => yl_b (y_leqN (i := ((m_.Name).length)) (j := 100) s q q) b0)<|mw q<|zw q (y_loadAll (kk := 1000) · q q u38 q q) fun a s => ?_
   refine gV s q func52 (c_r21_count n _ _ s.lt _ _ _ _ _ _ _ _ _ _ _ _ _ _ _ _ _ _ _ (by omega) (s.ft 101 q) (s.ft 102 q) (s.ft 103 q) (s.ft 104 q) (s.ft 105 q) (s.ft 106 q) (s.ft 107 q) (s.ft 108 q) (s.ft 109 q) _ e0) fun a w hK s => ?_
   refine S s<|zw q (fun s => yl_b (y_leq s q q) d0)<|tw_ q<|mw q<|zw q (bF 1 · u38 q)<|zw q (lB 1000 · u25 q) fun a s => ?_
   refine gC s q func73 (c_r21_lightNames n _ _ s.lt _ _ _ (s.ft 101 q) _ _ h0) fun g1 a w hK hp s => ?_
   obtain rfl := hp.trans (congrArg Value.bool a0)
   refine S s<|tw_ q<|mw q<|gw q<|gw q<|gw q<|fw q<|mw q<|gw q<|gw q<|gw q<|fw q<|mw q<|gw q<|gw q<|gw q<|fw q<|mw q<|gw q<|gw q<|gw q<|fw q<|mw q<|gw q<|gw q<|gw q<|fw q<|mw q<|gw q<|gw q<|fw q<|aw q<|nw fun a s => ?_
   apply wp_ret
   obtain rfl := si hg
   exact fT f51 s q q q
  have d0 := decide_eq_false o0
  replace hg := br_f hg o0
  refine S s<|lw<|yw q (bF 0 · u38 q)<|yw q (lB 1000 · u9 q)<|yw q (y_lenStrN · q u9)<|yw q (fun s => yl_b (y_leqN (i := ((m_.Name).length)) (j := 100) s q q) b0)<|mw q<|zw q (y_loadAll (kk := 1000) · q q u38 q q) fun a s => ?_
  refine gV s q func52 (c_r21_count n _ _ s.lt _ _ _ _ _ _ _ _ _ _ _ _ _ _ _ _ _ _ _ (by omega) (s.ft 101 q) (s.ft 102 q) (s.ft 103 q) (s.ft 104 q) (s.ft 105 q) (s.ft 106 q) (s.ft 107 q) (s.ft 108 q) (s.ft 109 q) _ e0) fun a w hK s => ?_
  refine S s<|zw q (fun s => yl_b (y_leq s q q) d0)<|tw_ q<|mw q<|gw q<|gw q<|gw q<|fw q<|mw q<|gw q<|gw q<|gw q<|fw q<|mw q<|gw q<|gw q<|gw q<|fw q<|mw q<|gw q<|gw q<|gw q<|fw q<|mw q<|gw q<|gw q<|gw q<|fw q<|mw q<|gw q<|gw q<|gw q<|fw q<|mw q<|gw q<|gw q<|fw q<|aw q<|nw fun a s => ?_
  apply wp_ret
  obtain rfl := si hg
  exact fT f51 s q q q
 have b0 := decide_eq_false m0
 replace hg := br_f hg m0
 refine S s<|lw<|yw q (bF 0 · u38 q)<|yw q (lB 1000 · u9 q)<|yw q (y_lenStrN · q u9)<|yw q (fun s => yl_b (y_leqN (i := ((m_.Name).length)) (j := 100) s q q) b0)<|mw q<|gw q<|gw q<|gw q<|fw q<|mw q<|gw q<|gw q<|gw q<|fw q<|mw q<|gw q<|gw q<|gw q<|fw q<|mw q<|gw q<|gw q<|gw q<|fw q<|mw q<|gw q<|gw q<|gw q<|fw q<|mw q<|gw q<|gw q<|gw q<|fw q<|mw q<|gw q<|gw q<|gw q<|fw q<|mw q<|gw q<|gw q<|fw q<|aw q<|nw fun a s => ?_
 apply wp_ret
 obtain rfl := si hg
 exact fT f51 s q q q
theorem c_r21_Light (n : Nat) (M : Bs) (w0 : World) (hM : bM M w0) (l_ : (List Module)) (c0 : OA) (d0 : Nat) (F0 : sR RModule M w0 c0 d0 l_) (r : Bool) (hg : r21_Light n l_ = some r) :
    CA Tryz.prog 22 [sl c0 l_ d0] w0 (fun v w => v = .bool (r)) := by
 unfold r21_Light at hg
 refine enter M noB func22 q q hM ?_
 intro a s
 refine S s<|esw 101 F0<|vw<|aw q<|nw<|sw<|vw<|mw q<|yw q (lS · q u22)<|yw q (y_gtrN (i := ((l_).length)) (j := 300) · q q)<|nw fun a s => c_dec s q (fun e0 => ?_) (fun e0 => ?_)
 ·replace hg := br_t hg e0
  have c3 := SlR.mx (s.ft 101 q)
  refine S s<|vw<|aw q<|nw fun a s => ?_
  apply wp_ret
  refine p_thenR ?_
  obtain rfl := si hg
  exact fT f22 s q q q
 replace hg := br_f hg e0
 refine S s<|kw<|pw<|vw<|aw q<|nw<|sw<|vw<|aw q<|nw<|bw fun a s => ?_
 refine c_loop (σ := Nat) (fun m1 a w => ∃ (n_3 : Int) (a0 : Nat), r21_Light_L0 n l_ m1 n_3 a0 = some r ∧ St (cx f22 M w0) [(0, sl c0 l_ d0), (3, vI n_3), (4, vI (((a0 : Nat) : Int)))] [] [(101, sF RModule c0 d0 l_)] a w) (fun m1 => m1) n ⟨(0), (0), hg, (s.sb q q q)⟩ ?_
 clear s a; rintro m1 a w ⟨n_3, a0, hg, s⟩
 rcases m1 with _ | m1
 ·rw [r21_Light_L0] at hg; cases hg
 rw [r21_Light_L0] at hg
 refine S s<|sw<|vw<|mw q<|mw q<|yw q (lS · q u22)<|yw q (y_lssN (i := a0) (j := ((l_).length)) · q q)<|nw fun a s => c_dec s q (fun i0 => ?_) (fun i0 => ?_)
 ·replace hg := br_t hg i0
  have d3 := SlR.mx (s.ft 101 q)
  obtain ⟨x8, b0, hg⟩ := zB hg
  obtain ⟨n3, u1, hg⟩ := zB hg
  refine S s<|kw<|pw<|sw<|bw<|sw<|sw<|lw<|mw q<|mw q fun a s => ?_
  obtain ⟨j3, r0, v0, B0, Y2, n0, j0⟩ := SlR.elemX (s.ft 101 q) b0
  refine qq s q (eL 10 a0 s u22 r0 (lt_of_get b0) q) fun a s => ?_
  obtain ⟨y1, m2, z1, n2, B1, o2, C1, p2, D1, q2, E1, r2, F1, s2, G1, t2, x1, l2, rfl, e3, H0, I0, J0, K0, L0, M0, O0, P0, G0⟩ := RModule.open n0
  refine S s<|nsw 111 H0<|nsw 112 I0<|nsw 113 J0<|nsw 114 K0<|nsw 115 L0<|nsw 116 M0<|nsw 117 O0<|nsw 118 P0<|nsw 119 G0<|yw q (y_ldp · q v0 B0 (by simpa using j0) u38 q q) fun a s => ?_
  refine lV s q func51 (c_r21_LightModule n _ _ s.lt _ _ _ _ _ _ _ _ _ _ _ _ _ _ _ _ _ _ _ (by omega) (s.ft 111 q) (s.ft 112 q) (s.ft 113 q) (s.ft 114 q) (s.ft 115 q) (s.ft 116 q) (s.ft 117 q) (s.ft 118 q) (s.ft 119 q) _ u1) fun a w hK s => ?_
  refine S s<|yw q (y_not · q)<|nw fun a s => c_cond s q (fun g0 => ?_) (fun g0 => ?_)
  ·replace hg := br_t hg g0
   refine S s<|vw<|aw q<|nw fun a s => ?_
   apply wp_ret
   refine p_thenR ?_
   refine p_inR ?_
   refine p_thenR ?_
   refine p_thenR ?_
   refine p_inR ?_
   refine p_thenR ?_
   obtain rfl := si hg
   exact fT f22 s q q q
  replace hg := br_n hg g0
  obtain ⟨w1, v1, hg⟩ := zB hg
  apply wp_skip
  apply pN
  apply wQ
  refine d_plan s [] [(0, some 0), (1, some 0), (2, some 0), (3, some 0), (4, some 0), (7, some 0), (8, some 0), (9, some 0), (10, some 0), (11, some 0), (12, some 0), (14, some 0), (15, some 0), (16, some 0), (17, some 0), (18, some 0), (19, some 0), (5, none), (6, none), (13, none), (20, none), (21, none)] q (by kernel_rfl) (by kernel_rfl) q ?_; clear s; intro wr hZ s; have hR := s.wd
  refine S s<|qw hR q (mo · q)<|qw hR q (mo · q)<|qw hR q (mo · q) fun a s => ?_
  obtain ⟨k3, s0, x0, C0, Z2, o0, k0⟩ := SlR.elemX (s.ft 101 q) b0
  refine qt s hR q (eL 10 a0 s u22 s0 (lt_of_get b0) q) fun a s => ?_
  obtain ⟨I1, v2, J1, w2, K1, x2, L1, y2, M1, z2, O1, B2, P1, C2, Q1, D2, H1, u2, rfl, g3, R0, S0, T0, U0, V0, X0, Y0, Z0, Q0⟩ := RModule.open o0
  refine S s<|nsw 147 R0<|nsw 148 S0<|nsw 149 T0<|nsw 150 U0<|nsw 151 V0<|nsw 152 X0<|nsw 153 Y0<|nsw 154 Z0<|nsw 155 Q0<|qw hR q (y_ldp · q x0 C0 (by simpa using k0) u38 q q)<|qw hR q (mo · q)<|qw hR q (mo · q) fun a s => ?_
  obtain ⟨l3, t0, y0, D0, a3, p0, l0⟩ := SlR.elemX (s.ft 101 q) b0
  refine S s<|qw hR q (eL 10 a0 · u22 t0 (lt_of_get b0) q)<|qw hR q (pF 1 · u38 q) fun a s => ?_
  obtain ⟨S1, F2, T1, G2, U1, H2, V1, I2, X1, J2, Y1, K2, Z1, L2, a2, M2, R1, E2, rfl, h3, b1, c1, d1, e1, g1, h1, i1, j1, a1⟩ := RModule.open p0
  refine S s<|nsw 156 b1<|nsw 157 c1<|nsw 158 d1<|nsw 159 e1<|nsw 160 g1<|nsw 161 h1<|nsw 162 i1<|nsw 163 j1<|nsw 164 a1<|qw hR q (lP · y0 D0 (l0 1 _ q) u25 q)<|qw hR q (lS · q u25)<|qw hR q (mo · q)<|qw hR q (mo · q) fun a s => ?_
  obtain ⟨m3, u0, z0, E0, b3, q0, m0⟩ := SlR.elemX (s.ft 101 q) b0
  refine S s<|qw hR q (eL 10 a0 · u22 u0 (lt_of_get b0) q)<|qw hR q (pF 9 · u38 q) fun a s => ?_
  obtain ⟨c2, P2, d2, Q2, e2, R2, g2, S2, h2, T2, i2, U2, j2, V2, k2, X2, b2, O2, rfl, i3, l1, n1, o1, p1, q1, r1, s1, t1, k1⟩ := RModule.open q0
  refine S s<|nsw 165 l1<|nsw 166 n1<|nsw 167 o1<|nsw 168 p1<|nsw 169 q1<|nsw 170 r1<|nsw 171 s1<|nsw 172 t1<|nsw 173 k1<|qw hR q (lP · z0 E0 (m0 9 _ q) u25 q)<|qw hR q (lS · q u25) fun a s => ?_
  refine l_take s q q (l_call (cap := []) s q func52 q (by kernel_rfl) q q (c_r21_count n _ _ s.lt _ _ _ _ _ _ _ _ _ _ _ _ _ _ _ _ _ _ _ (by omega) (s.ft 147 q) (s.ft 148 q) (s.ft 149 q) (s.ft 150 q) (s.ft 151 q) (s.ft 152 q) (s.ft 153 q) (s.ft 154 q) (s.ft 155 q) _ v1) fun o3 a w hK hp s => ?_)
  refine gz hZ hK fun hZ => ?_; clear hK
  obtain rfl := hp
  refine S s<|tw q (y_wadd · q q)<|tw q (y_wadd · q q)<|tw q (y_wadd · q q)<|tw q (y_assign · q) fun a s => ?_
  clear hR hZ
  refine S s<|pw<|vw<|mw q<|yw q (y_gtr · q q)<|nw fun a s => c_dec s q (fun h0 => ?_) (fun h0 => ?_)
  ·replace hg := br_t hg h0
   refine S s<|vw<|aw q<|nw fun a s => ?_
   apply wp_ret
   refine p_inR ?_
   refine p_thenR ?_
   refine p_thenR ?_
   refine p_inR ?_
   refine p_thenR ?_
   obtain rfl := si hg
   exact fT f22 s q q q
  replace hg := br_f hg h0
  apply wp_skip
  refine p_inN ?_
  refine S s<|pw<|lw<|mw q<|yw q (y_addN (i := a0) (j := 1) · q q (in64.2 (by omega)))<|aw q<|nw fun a s => ?_
  exact ⟨m1, Nat.lt_succ_self _, ⟨(IntKind.i64.wrap ((IntKind.i64.wrap ((IntKind.i64.wrap (n_3 + w1)) + (((x8.Imports).length : Nat) : Int))) + (((x8.Drops).length : Nat) : Int))), (a0 + 1), hg, (s.sb q q q)⟩⟩
 replace hg := br_f hg i0
 apply wp_exit
 refine p_then ?_
 refine p_then ?_
 refine p_in ?_
 refine S s<|pw<|vw<|aw q<|nw fun a s => ?_
 apply wp_ret
 obtain rfl := si hg
 exact fT f22 s q q q
theorem c_r01_digit (n : Nat) (M : Bs) (w0 : World) (hM : bM M w0) (c_ : UInt8) (r : Bool) (hg : r01_digit n c_ = some r) :
    CA Tryz.prog 127 [.int .u8 (((c_.toNat : Nat) : Int))] w0 (fun v w => v = .bool (r)) := by
 unfold r01_digit at hg
 refine enter M noB func127 q q hM ?_
 intro a s
 refine S s<|vw<|aw q<|nw<|sw fun a s => ?_
 rcases Decidable.em ((48 : Nat) ≤ c_.toNat) with a0 | a0
 ·have b0 := decide_eq_true a0
  replace hg := br_t hg a0
  refine S s<|lw<|mw q<|yw q (fun s => yl_b (y_geqN (i := c_.toNat) (j := 48) s q q) b0)<|mw q<|hw q<|zw q (y_leqN (i := c_.toNat) (j := 57) · q q)<|tw_ q<|aw q<|nw fun a s => ?_
  apply wp_ret
  obtain rfl := si hg
  exact fT f127 s q q q
 have b0 := decide_eq_false a0
 replace hg := br_f hg a0
 refine S s<|lw<|mw q<|yw q (fun s => yl_b (y_geqN (i := c_.toNat) (j := 48) s q q) b0)<|mw q<|gw q<|gw q<|fw q<|aw q<|nw fun a s => ?_
 apply wp_ret
 obtain rfl := si hg
 exact fT f127 s q q q
theorem c_r01_upper (n : Nat) (M : Bs) (w0 : World) (hM : bM M w0) (c_ : UInt8) (r : Bool) (hg : r01_upper n c_ = some r) :
    CA Tryz.prog 130 [.int .u8 (((c_.toNat : Nat) : Int))] w0 (fun v w => v = .bool (r)) := by
 unfold r01_upper at hg
 refine enter M noB func130 q q hM ?_
 intro a s
 refine S s<|vw<|aw q<|nw<|sw fun a s => ?_
 rcases Decidable.em ((65 : Nat) ≤ c_.toNat) with a0 | a0
 ·have b0 := decide_eq_true a0
  replace hg := br_t hg a0
  refine S s<|lw<|mw q<|yw q (fun s => yl_b (y_geqN (i := c_.toNat) (j := 65) s q q) b0)<|mw q<|hw q<|zw q (y_leqN (i := c_.toNat) (j := 90) · q q)<|tw_ q<|aw q<|nw fun a s => ?_
  apply wp_ret
  obtain rfl := si hg
  exact fT f130 s q q q
 have b0 := decide_eq_false a0
 replace hg := br_f hg a0
 refine S s<|lw<|mw q<|yw q (fun s => yl_b (y_geqN (i := c_.toNat) (j := 65) s q q) b0)<|mw q<|gw q<|gw q<|fw q<|aw q<|nw fun a s => ?_
 apply wp_ret
 obtain rfl := si hg
 exact fT f130 s q q q
theorem c_r01_lower (n : Nat) (M : Bs) (w0 : World) (hM : bM M w0) (c_ : UInt8) (r : Bool) (hg : r01_lower n c_ = some r) :
    CA Tryz.prog 136 [.int .u8 (((c_.toNat : Nat) : Int))] w0 (fun v w => v = .bool (r)) := by
 unfold r01_lower at hg
 refine enter M noB func136 q q hM ?_
 intro a s
 refine S s<|vw<|aw q<|nw<|sw fun a s => ?_
 rcases Decidable.em ((97 : Nat) ≤ c_.toNat) with a0 | a0
 ·have b0 := decide_eq_true a0
  replace hg := br_t hg a0
  refine S s<|lw<|mw q<|yw q (fun s => yl_b (y_geqN (i := c_.toNat) (j := 97) s q q) b0)<|mw q<|hw q<|zw q (y_leqN (i := c_.toNat) (j := 122) · q q)<|tw_ q<|aw q<|nw fun a s => ?_
  apply wp_ret
  obtain rfl := si hg
  exact fT f136 s q q q
 have b0 := decide_eq_false a0
 replace hg := br_f hg a0
 refine S s<|lw<|mw q<|yw q (fun s => yl_b (y_geqN (i := c_.toNat) (j := 97) s q q) b0)<|mw q<|gw q<|gw q<|fw q<|aw q<|nw fun a s => ?_
 apply wp_ret
 obtain rfl := si hg
 exact fT f136 s q q q
theorem c_r01_part (n : Nat) (M : Bs) (w0 : World) (hM : bM M w0) (c_ : UInt8) (big_ : Bool) (r : Bool) (hg : r01_part n c_ big_ = some r) :
    CA Tryz.prog 128 [.int .u8 (((c_.toNat : Nat) : Int)), .bool (big_)] w0 (fun v w => v = .bool (r)) := by
 unfold r01_part at hg
 refine enter M noB func128 q q hM ?_
 intro a s
 obtain ⟨r1, c0, hg⟩ := zB hg
 refine S s<|vw<|aw q<|nw<|sw fun a s => ?_
 rcases Bool.eq_false_or_eq_true (r1) with b0 | b0
 ·replace hg := br_t hg b0
  refine S s<|lw<|mw q fun a s => ?_
  refine lC s q func127 (c_r01_digit n _ _ s.lt _ _ c0) fun v5 a w hK hp s => ?_
  obtain rfl := hp.trans (congrArg Value.bool b0)
  refine S s<|mw q<|gw q<|gw q<|tw_ q<|mw q<|gw q<|gw q<|gw q<|gw q<|gw q<|tw_ q<|mw q<|gw q<|gw q<|gw q<|gw q<|gw q<|gw q<|tw_ q<|aw q<|nw fun a s => ?_
  apply wp_ret
  obtain rfl := si hg
  exact fT f128 s q q q
 replace hg := br_n hg b0
 rcases Decidable.em (c_.toNat = 45) with e0 | e0
 ·have g0 := decide_eq_true e0
  replace hg := br_t hg e0
  refine S s<|lw<|mw q fun a s => ?_
  refine lC s q func127 (c_r01_digit n _ _ s.lt _ _ c0) fun v8 a w hK hp s => ?_
  obtain rfl := hp.trans (congrArg Value.bool b0)
  refine S s<|mw q<|hw q<|zw q (fun s => yl_b (y_eqlN (i := c_.toNat) (j := 45) s q q) g0)<|fw q<|mw q<|gw q<|gw q<|gw q<|gw q<|gw q<|tw_ q<|mw q<|gw q<|gw q<|gw q<|gw q<|gw q<|gw q<|tw_ q<|aw q<|nw fun a s => ?_
  apply wp_ret
  obtain rfl := si hg
  exact fT f128 s q q q
 have g0 := decide_eq_false e0
 replace hg := br_f hg e0
 rcases Bool.eq_false_or_eq_true (big_) with a0 | a0
 ·replace hg := br_t hg a0
  obtain ⟨j0, h0, hg⟩ := zB hg
  rcases Bool.eq_false_or_eq_true (j0) with d0 | d0
  ·replace hg := br_t hg d0
   refine S s<|lw<|mw q fun a s => ?_
   refine lC s q func127 (c_r01_digit n _ _ s.lt _ _ c0) fun l0 a w hK hp s => ?_
   obtain rfl := hp.trans (congrArg Value.bool b0)
   refine S s<|mw q<|hw q<|zw q (fun s => yl_b (y_eqlN (i := c_.toNat) (j := 45) s q q) g0)<|fw q<|mw q<|zw q (fun s => yl_b (mo s q) a0)<|hw q<|hw q fun a s => ?_
   refine gC s q func130 (c_r01_upper n _ _ s.lt _ _ h0) fun m0 a w hK hp s => ?_
   obtain rfl := hp.trans (congrArg Value.bool d0)
   refine S s<|zw q (pT · q q)<|fw q<|mw q<|gw q<|gw q<|gw q<|gw q<|gw q<|gw q<|tw_ q<|aw q<|nw fun a s => ?_
   apply wp_ret
   obtain rfl := si hg
   exact fT f128 s q q q
  replace hg := br_n hg d0
  refine S s<|lw<|mw q fun a s => ?_
  refine lC s q func127 (c_r01_digit n _ _ s.lt _ _ c0) fun n0 a w hK hp s => ?_
  obtain rfl := hp.trans (congrArg Value.bool b0)
  refine S s<|mw q<|hw q<|zw q (fun s => yl_b (y_eqlN (i := c_.toNat) (j := 45) s q q) g0)<|fw q<|mw q<|zw q (fun s => yl_b (mo s q) a0)<|hw q<|hw q fun a s => ?_
  refine gC s q func130 (c_r01_upper n _ _ s.lt _ _ h0) fun o0 a w hK hp s => ?_
  obtain rfl := hp.trans (congrArg Value.bool d0)
  refine S s<|zw q (pT · q q)<|fw q<|mw q<|zw q (fun s => yl_b (mo s q) a0)<|zw q (y_not · q)<|hw q<|gw q<|gw q<|zw q (pO · q q)<|fw q<|aw q<|nw fun a s => ?_
  apply wp_ret
  obtain rfl := si hg
  exact fT f128 s q q q
 replace hg := br_n hg a0
 obtain ⟨k0, i0, hg⟩ := zB hg
 refine S s<|lw<|mw q fun a s => ?_
 refine lC s q func127 (c_r01_digit n _ _ s.lt _ _ c0) fun p0 a w hK hp s => ?_
 obtain rfl := hp.trans (congrArg Value.bool b0)
 refine S s<|mw q<|hw q<|zw q (fun s => yl_b (y_eqlN (i := c_.toNat) (j := 45) s q q) g0)<|fw q<|mw q<|zw q (fun s => yl_b (mo s q) a0)<|hw q<|gw q<|gw q<|zw q (pO · q q)<|fw q<|mw q<|zw q (fun s => yl_b (mo s q) a0)<|zw q (y_not · q)<|hw q<|hw q fun a s => ?_
 refine gV s q func136 (c_r01_lower n _ _ s.lt _ _ i0) fun a w hK s => ?_
 refine S s<|zw q (pT · q q)<|fw q<|aw q<|nw fun a s => ?_
 apply wp_ret
 obtain rfl := si hg
 exact fT f128 s q q q
theorem c_r01_named (n : Nat) (M : Bs) (w0 : World) (hM : bM M w0) (s_ : (List UInt8)) (s0 : (s_).length ≤ 9223372036854775807) (big_ : Bool) (r : Bool) (hg : r01_named n s_ big_ = some r) :
    CA Tryz.prog 110 [vT s_, .bool (big_)] w0 (fun v w => v = .bool (r)) := by
 unfold r01_named at hg
 refine enter M noB func110 q q hM ?_
 intro a s
 refine S s<|vw<|aw q<|nw<|sw<|sw fun a s => ?_
 obtain ⟨k1, hg, o0⟩ := zJ hg
 refine c_post (fun a w => ∃ (l0 : Bool), k1 l0 = some r ∧ St (cx f110 M w0) [(0, vT s_), (1, .bool (big_)), (23, .bool (l0))] [] [] a w) ?_ ?_
 ·rcases Decidable.em (((s_).length) < 1) with b0 | b0
  ·have c0 := decide_eq_true b0
   replace hg := br_t hg b0
   refine S s<|lw<|mw q<|yw q (y_lenStrN · q u9)<|yw q (fun s => yl_b (y_lssN (i := ((s_).length)) (j := 1) s q q) c0)<|mw q<|gw q<|gw q<|gw q<|tw_ q<|mw q<|gw q<|gw q<|gw q<|tw_ q<|mw q<|gw q<|gw q<|gw q<|tw_ q<|nw fun a s => ?_
   exact ⟨(true), hg, (s.sb q q q)⟩
  have c0 := decide_eq_false b0
  replace hg := br_f hg b0
  rcases Decidable.em ((32 : Nat) < ((s_).length)) with d0 | d0
  ·have g0 := decide_eq_true d0
   replace hg := br_t hg d0
   refine S s<|lw<|mw q<|yw q (y_lenStrN · q u9)<|yw q (fun s => yl_b (y_lssN (i := ((s_).length)) (j := 1) s q q) c0)<|mw q<|hw q<|zw q (y_lenStrN · q u9)<|zw q (fun s => yl_b (y_gtrN (i := ((s_).length)) (j := 32) s q q) g0)<|fw q<|mw q<|gw q<|gw q<|gw q<|tw_ q<|mw q<|gw q<|gw q<|gw q<|tw_ q<|nw fun a s => ?_
   exact ⟨(true), hg, (s.sb q q q)⟩
  have g0 := decide_eq_false d0
  replace hg := br_f hg d0
  obtain ⟨c5, k0, hg⟩ := zB hg
  obtain ⟨r6, m0, hg⟩ := zB hg
  rcases Bool.eq_false_or_eq_true (r6) with e0 | e0
  ·replace hg := br_t hg e0
   refine S s<|lw<|mw q<|yw q (y_lenStrN · q u9)<|yw q (fun s => yl_b (y_lssN (i := ((s_).length)) (j := 1) s q q) c0)<|mw q<|hw q<|zw q (y_lenStrN · q u9)<|zw q (fun s => yl_b (y_gtrN (i := ((s_).length)) (j := 32) s q q) g0)<|fw q<|mw q<|hw q<|zw q (y_indexN (i := 0) · q q u9 q k0) fun a s => ?_
   refine gC s q func127 (c_r01_digit n _ _ s.lt _ _ m0) fun u0 a w hK hp s => ?_
   obtain rfl := hp.trans (congrArg Value.bool e0)
   refine S s<|fw q<|mw q<|gw q<|gw q<|gw q<|tw_ q<|nw fun a s => ?_
   exact ⟨(true), hg, (s.sb q q q)⟩
  replace hg := br_n hg e0
  refine S s<|lw<|mw q<|yw q (y_lenStrN · q u9)<|yw q (fun s => yl_b (y_lssN (i := ((s_).length)) (j := 1) s q q) c0)<|mw q<|hw q<|zw q (y_lenStrN · q u9)<|zw q (fun s => yl_b (y_gtrN (i := ((s_).length)) (j := 32) s q q) g0)<|fw q<|mw q<|hw q<|zw q (y_indexN (i := 0) · q q u9 q k0) fun a s => ?_
  refine gC s q func127 (c_r01_digit n _ _ s.lt _ _ m0) fun v0 a w hK hp s => ?_
  obtain rfl := hp.trans (congrArg Value.bool e0)
  refine S s<|fw q<|mw q<|hw q<|zw q (y_indexN (i := 0) · q q u9 q k0)<|zw q (y_eqlN (i := c5.toNat) (j := 45) · q q)<|fw q<|nw fun a s => ?_
  exact ⟨(decide (c5.toNat = 45)), hg, (s.sb q q q)⟩
 clear s a; rintro a w ⟨l0, hg, s⟩
 subst o0
 refine c_cond s q (fun h0 => ?_) (fun h0 => ?_)
 ·replace hg := br_t hg h0
  refine S s<|vw<|aw q<|nw fun a s => ?_
  apply wp_ret
  refine p_thenR ?_
  obtain rfl := si hg
  exact fT f110 s q q q
 replace hg := br_n hg h0
 refine S s<|kw<|pw<|sw<|vw<|aw q<|nw<|bw fun a s => ?_
 refine c_loop (σ := Nat) (fun m1 a w => ∃ (a0 : Nat), r01_named_L0 n s_ big_ m1 a0 = some r ∧ St (cx f110 M w0) [(0, vT s_), (1, .bool (big_)), (5, vI (((a0 : Nat) : Int)))] [] [] a w) (fun m1 => m1) n ⟨(0), hg, (s.sb q q q)⟩ ?_
 clear s a; rintro m1 a w ⟨a0, hg, s⟩
 rcases m1 with _ | m1
 ·rw [r01_named_L0] at hg; cases hg
 rw [r01_named_L0] at hg
 refine S s<|sw<|vw<|mw q<|mw q<|yw q (y_lenStrN · q u9)<|yw q (y_lssN (i := a0) (j := ((s_).length)) · q q)<|nw fun a s => c_dec s q (fun i0 => ?_) (fun i0 => ?_)
 ·replace hg := br_t hg i0
  have r0 : (s_).length ≤ 9223372036854775807 := (by omega)
  obtain ⟨q0, n0, hg⟩ := zB hg
  obtain ⟨t0, p0, hg⟩ := zB hg
  refine S s<|kw<|pw<|sw<|bw<|sw<|lw<|mw q<|mw q<|yw q (y_indexN (i := a0) · q q u9 q n0)<|mw q fun a s => ?_
  refine lV s q func128 (c_r01_part n _ _ s.lt _ _ _ p0) fun a w hK s => ?_
  refine S s<|yw q (y_not · q)<|nw fun a s => c_cond s q (fun j0 => ?_) (fun j0 => ?_)
  ·replace hg := br_t hg j0
   refine S s<|vw<|aw q<|nw fun a s => ?_
   apply wp_ret
   refine p_inR ?_
   refine p_thenR ?_
   refine p_thenR ?_
   refine p_inR ?_
   refine p_thenR ?_
   obtain rfl := si hg
   exact fT f110 s q q q
  replace hg := br_n hg j0
  apply wp_skip
  refine p_inN ?_
  refine S s<|pw<|lw<|mw q<|yw q (y_addN (i := a0) (j := 1) · q q (in64.2 (by omega)))<|aw q<|nw fun a s => ?_
  exact ⟨m1, Nat.lt_succ_self _, ⟨(a0 + 1), hg, (s.sb q q q)⟩⟩
 replace hg := br_f hg i0
 apply wp_exit
 refine p_then ?_
 refine p_then ?_
 refine p_in ?_
 refine S s<|pw<|vw<|aw q<|nw fun a s => ?_
 apply wp_ret
 obtain rfl := si hg
 exact fT f110 s q q q
theorem c_r01_Name (n : Nat) (M : Bs) (w0 : World) (hM : bM M w0) (s_ : (List UInt8)) (b0 : (s_).length ≤ 9223372036854775807) (r : Bool) (hg : r01_Name n s_ = some r) :
    CA Tryz.prog 77 [vT s_] w0 (fun v w => v = .bool (r)) := by
 unfold r01_Name at hg
 refine enter M noB func77 q q hM ?_
 intro a s
 obtain ⟨r1, a0, hg⟩ := zB hg
 refine S s<|vw<|aw q<|nw<|sw<|lw<|mw q fun a s => ?_
 refine lV s q func110 (c_r01_named n _ _ s.lt _ (by omega) _ _ a0) fun a w hK s => ?_
 refine S s<|aw q<|nw fun a s => ?_
 apply wp_ret
 obtain rfl := si hg
 exact fT f77 s q q q
theorem c_r21_long (n : Nat) (M : Bs) (w0 : World) (hM : bM M w0) (m_ : Module) (e0 : OA) (o0 : Nat) (g0 : OA) (p0 : Nat) (h0 : OA) (q0 : Nat) (i0 : OA) (r0 : Nat) (j0 : OA) (s0 : Nat) (k0 : OA) (t0 : Nat) (l0 : OA) (u0 : Nat) (m0 : OA) (v0 : Nat) (d0 : OA) (n0 : Nat) (S0 : (m_.Name).length ≤ 9223372036854775807) (G0 : sR Rep.str M w0 e0 o0 m_.Imports) (H0 : sR RTypeDecl M w0 g0 p0 m_.Types) (I0 : sR RDef M w0 h0 q0 m_.Templates) (J0 : sR REntryDecl M w0 i0 r0 m_.Entries) (K0 : sR RLexDecl M w0 j0 s0 m_.LexRules) (L0 : sR RDef M w0 k0 t0 m_.Rules) (M0 : sR RDef M w0 l0 u0 m_.Roots) (O0 : sR (Rep.list Rep.str) M w0 m0 v0 m_.Checks) (F0 : sR Rep.str M w0 d0 n0 m_.Drops) (r : Bool) (hg : r21_long n m_ = some r) :
    CA Tryz.prog 78 [.agg #[vT m_.Name, sl e0 m_.Imports o0, sl g0 m_.Types p0, sl h0 m_.Templates q0, sl i0 m_.Entries r0, sl j0 m_.LexRules s0, sl k0 m_.Rules t0, sl l0 m_.Roots u0, sl m0 m_.Checks v0, sl d0 m_.Drops n0]] w0 (fun v w => v = .bool (r)) := by
 unfold r21_long at hg
 refine enter M noB func78 q q hM ?_
 intro a s
 refine S s<|esw 101 G0<|esw 102 H0<|esw 103 I0<|esw 104 J0<|esw 105 K0<|esw 106 L0<|esw 107 M0<|esw 108 O0<|esw 109 F0<|vw fun a s => ?_
 refine l_seq q (l_box (zs := [vT m_.Name, sl e0 m_.Imports o0, sl g0 m_.Types p0, sl h0 m_.Templates q0, sl i0 m_.Entries r0, sl j0 m_.LexRules s0, sl k0 m_.Rules t0, sl l0 m_.Roots u0, sl m0 m_.Checks v0, sl d0 m_.Drops n0]) s 1000 q q q q fun b2 a w hb hK s => ?_)
 refine S s<|aw q<|nw<|vw<|yw q (bF 1 · u38 q)<|yw q (lB 1000 · u25 q)<|yw q (lS · q u25)<|yw q (bF 2 · u38 q)<|yw q (lB 1000 · u32 q)<|yw q (lS · q u32)<|yw q (bF 3 · u38 q)<|yw q (lB 1000 · u33 q)<|yw q (lS · q u33)<|yw q (bF 4 · u38 q)<|yw q (lB 1000 · u34 q)<|yw q (lS · q u34)<|yw q (bF 5 · u38 q)<|yw q (lB 1000 · u35 q)<|yw q (lS · q u35)<|yw q (bF 6 · u38 q)<|yw q (lB 1000 · u33 q)<|yw q (lS · q u33)<|yw q (bF 7 · u38 q)<|yw q (lB 1000 · u33 q)<|yw q (lS · q u33)<|yw q (bF 8 · u38 q)<|yw q (lB 1000 · u36 q)<|yw q (lS · q u36)<|yw q (bF 9 · u38 q)<|yw q (lB 1000 · u25 q)<|yw q (lS · q u25) fun a s => ?_
 refine l_seq q (l_buildDense (sz := 1) s 1127 q q q u147 q q q q q q q fun b4 a w D0 hK s => ?_)
 clear D0
 refine S s<|aw q<|nw<|sw<|vw<|aw q<|nw<|bw fun a s => ?_
 replace s := s.add 112 (rdF (Rep.num .i64) (cellsOfL [vI ((((m_.Imports).length : Nat) : Int)), vI ((((m_.Types).length : Nat) : Int)), vI ((((m_.Templates).length : Nat) : Int)), vI ((((m_.Entries).length : Nat) : Int)), vI ((((m_.LexRules).length : Nat) : Int)), vI ((((m_.Rules).length : Nat) : Int)), vI ((((m_.Roots).length : Nat) : Int)), vI ((((m_.Checks).length : Nat) : Int)), vI ((((m_.Drops).length : Nat) : Int))]) ([(((m_.Imports).length : Nat) : Int), (((m_.Types).length : Nat) : Int), (((m_.Templates).length : Nat) : Int), (((m_.Entries).length : Nat) : Int), (((m_.LexRules).length : Nat) : Int), (((m_.Rules).length : Nat) : Int), (((m_.Roots).length : Nat) : Int), (((m_.Checks).length : Nat) : Int), (((m_.Drops).length : Nat) : Int)])) (RdAll.cons (by exact q) (RdAll.cons (by exact q) (RdAll.cons (by exact q) (RdAll.cons (by exact q) (RdAll.cons (by exact q) (RdAll.cons (by exact q) (RdAll.cons (by exact q) (RdAll.cons (by exact q) (RdAll.cons (by exact q) (rN))))))))))
 replace s := s.al 111 112 q
 replace s := s.pk [(1000, 1000), (700110, 1127)] (by decide)
 refine c_loop (σ := Nat) (fun m1 a w => ∃ (b0 : (List Int)) (a0 : Nat) (A6 : OA) (c7 : Nat) (c0 : List Value), r21_long_L0 n  m1 b0 a0 = some r ∧ St (cx f78 M w0) [(3, sl A6 b0 c7), (4, vI (((a0 : Nat) : Int)))] [(700110, Ob.row (A6) ((b0).length) (c7) 3 1 (c0))] [(111, rdF (Rep.num .i64) (c0) (b0))] a w) (fun m1 => m1) n ⟨([(((m_.Imports).length : Nat) : Int), (((m_.Types).length : Nat) : Int), (((m_.Templates).length : Nat) : Int), (((m_.Entries).length : Nat) : Int), (((m_.LexRules).length : Nat) : Int), (((m_.Rules).length : Nat) : Int), (((m_.Roots).length : Nat) : Int), (((m_.Checks).length : Nat) : Int), (((m_.Drops).length : Nat) : Int)]), (0), (some ⟨b4, 0, none⟩), (9), (cellsOfL [vI ((((m_.Imports).length : Nat) : Int)), vI ((((m_.Types).length : Nat) : Int)), vI ((((m_.Templates).length : Nat) : Int)), vI ((((m_.Entries).length : Nat) : Int)), vI ((((m_.LexRules).length : Nat) : Int)), vI ((((m_.Rules).length : Nat) : Int)), vI ((((m_.Roots).length : Nat) : Int)), vI ((((m_.Checks).length : Nat) : Int)), vI ((((m_.Drops).length : Nat) : Int))]), hg, (s.sb q q q)⟩ ?_
 clear s a; rintro m1 a w ⟨b0, a0, A6, c7, c0, hg, s⟩
 rcases m1 with _ | m1
 ·rw [r21_long_L0] at hg; cases hg
 rw [r21_long_L0] at hg
 refine S s<|sw<|vw<|mw q<|mw q<|yw q (lS · q u147)<|yw q (y_lssN (i := a0) (j := ((b0).length)) · q q)<|nw fun a s => c_dec s q (fun x0 => ?_) (fun x0 => ?_)
 ·replace hg := br_t hg x0
  have R0 := row_mx (s.wd.holds 700110 _ q)
  obtain ⟨T0, B0, hg⟩ := zB hg
  refine S s<|kw<|pw<|sw<|bw<|sw<|lw<|mw q<|mw q fun a s => ?_
  obtain ⟨E0, Q0, z0⟩ := SlR.row1 (s.wd.holds 700110 _ q) (s.ft 111 q) q q B0
  refine qq s q (y_rowIndex (sz := 1) (i := a0) s q q u147 q z0 q E0) fun a s => ?_
  have P0 := (s.ft 111 q).at_ _ _ B0
  have C0 := P0
  refine S s<|yw q (y_loadRow1 (kk := 700110) · q q z0 (take1 C0) u3 q)<|yw q (y_gtr · q q)<|nw fun a s => c_dec s q (fun y0 => ?_) (fun y0 => ?_)
  ·replace hg := br_t hg y0
   refine S s<|vw<|aw q<|nw fun a s => ?_
   apply wp_ret
   refine p_inR ?_
   refine p_thenR ?_
   refine p_thenR ?_
   refine p_inR ?_
   refine p_thenR ?_
   obtain rfl := si hg
   exact fT f78 s q q q
  replace hg := br_f hg y0
  apply wp_skip
  refine p_inN ?_
  refine S s<|pw<|lw<|mw q<|yw q (y_addN (i := a0) (j := 1) · q q (in64.2 (by omega)))<|aw q<|nw<|alw 111 111 q fun a s => ?_
  exact ⟨m1, Nat.lt_succ_self _, ⟨(b0), (a0 + 1), (A6), (c7), (c0), hg, (s.sb q q q)⟩⟩
 replace hg := br_f hg x0
 apply wp_exit
 refine p_then ?_
 refine p_then ?_
 refine p_in ?_
 refine S s<|pw<|vw<|aw q<|nw fun a s => ?_
 apply wp_ret
 obtain rfl := si hg
 exact fT f78 s q q q
theorem c_r01_Feature (n : Nat) (M : Bs) (w0 : World) (hM : bM M w0) (s_ : (List UInt8)) (b0 : (s_).length ≤ 9223372036854775807) (r : Bool) (hg : r01_Feature n s_ = some r) :
    CA Tryz.prog 111 [vT s_] w0 (fun v w => v = .bool (r)) := by
 unfold r01_Feature at hg
 refine enter M noB func111 q q hM ?_
 intro a s
 obtain ⟨r1, a0, hg⟩ := zB hg
 refine S s<|vw<|aw q<|nw<|sw<|lw<|mw q fun a s => ?_
 refine lV s q func110 (c_r01_named n _ _ s.lt _ (by omega) _ _ a0) fun a w hK s => ?_
 refine S s<|aw q<|nw fun a s => ?_
 apply wp_ret
 obtain rfl := si hg
 exact fT f111 s q q q
theorem c_r21_allNames (n : Nat) (M : Bs) (w0 : World) (hM : bM M w0) (l_ : (List (List UInt8))) (c0 : OA) (d0 : Nat) (E0 : sR Rep.str M w0 c0 d0 l_) (big_ : Bool) (r : Bool) (hg : r21_allNames n l_ big_ = some r) :
    CA Tryz.prog 79 [sl c0 l_ d0, .bool (big_)] w0 (fun v w => v = .bool (r)) := by
 unfold r21_allNames at hg
 refine enter M noB func79 q q hM ?_
 intro a s
 refine S s<|esw 101 E0<|vw<|aw q<|nw<|sw<|vw<|aw q<|nw<|bw fun a s => ?_
 refine c_loop (σ := Nat) (fun m1 a w => ∃ (a0 : Nat), r21_allNames_L0 n l_ big_ m1 a0 = some r ∧ St (cx f79 M w0) [(0, sl c0 l_ d0), (1, .bool (big_)), (5, vI (((a0 : Nat) : Int)))] [] [(101, sF Rep.str c0 d0 l_)] a w) (fun m1 => m1) n ⟨(0), hg, (s.sb q q q)⟩ ?_
 clear s a; rintro m1 a w ⟨a0, hg, s⟩
 rcases m1 with _ | m1
 ·rw [r21_allNames_L0] at hg; cases hg
 rw [r21_allNames_L0] at hg
 refine S s<|sw<|vw<|mw q<|mw q<|yw q (lS · q u25)<|yw q (y_lssN (i := a0) (j := ((l_).length)) · q q)<|nw fun a s => c_dec s q (fun h0 => ?_) (fun h0 => ?_)
 ·replace hg := br_t hg h0
  have L0 := SlR.mx (s.ft 101 q)
  refine S s<|kw<|pw<|sw<|bw<|sw fun a s => ?_
  obtain ⟨k4, hg, v0⟩ := zJ hg
  refine c_post (fun a w => ∃ (j0 : Bool), k4 j0 = some r ∧ St (cx f79 M w0) [(0, sl c0 l_ d0), (1, .bool (big_)), (5, vI (((a0 : Nat) : Int))), (32, .bool (j0))] [] [(101, sF Rep.str c0 d0 l_)] a w) ?_ ?_
  ·rcases Bool.eq_false_or_eq_true (big_) with b0 | b0
   ·replace hg := br_t hg b0
    obtain ⟨x8, g0, hg⟩ := zB hg
    obtain ⟨G0, k0, hg⟩ := zB hg
    rcases Bool.eq_false_or_eq_true (!(G0)) with e0 | e0
    ·replace hg := br_t hg e0
     refine S s<|lw<|yw q (fun s => yl_b (mo s q) b0)<|mw q<|hw q<|hw q fun a s => ?_
     obtain ⟨Q0, s0, x0, B0, I0, p0, m0⟩ := SlR.elemX (s.ft 101 q) g0
     refine gy s q (eL 1 a0 s u25 s0 (lt_of_get g0) q) fun a s => ?_
     obtain ⟨rfl, M0⟩ := p0
     refine gy s q (lP s x0 B0 (m0 0 _ q) u9 q) fun a s => ?_
     refine gV s q func111 (c_r01_Feature n _ _ s.lt _ (by omega) _ k0) fun a w hK s => ?_
     refine S s<|zw q (fun s => yl_b (y_not s q) e0)<|tw_ q<|mw q<|gw q<|gw q<|gw q<|gw q<|gw q<|gw q<|gw q<|gw q<|gw q<|gw q<|tw_ q<|nw fun a s => ?_
     exact ⟨(true), hg, (s.sb q q q)⟩
    replace hg := br_n hg e0
    refine S s<|lw<|yw q (fun s => yl_b (mo s q) b0)<|mw q<|hw q<|hw q fun a s => ?_
    obtain ⟨R0, t0, y0, C0, J0, q0, n0⟩ := SlR.elemX (s.ft 101 q) g0
    refine gy s q (eL 1 a0 s u25 t0 (lt_of_get g0) q) fun a s => ?_
    obtain ⟨rfl, O0⟩ := q0
    refine gy s q (lP s y0 C0 (n0 0 _ q) u9 q) fun a s => ?_
    refine gV s q func111 (c_r01_Feature n _ _ s.lt _ (by omega) _ k0) fun a w hK s => ?_
    refine S s<|zw q (fun s => yl_b (y_not s q) e0)<|tw_ q<|mw q<|zw q (fun s => yl_b (mo s q) b0)<|zw q (y_not · q)<|hw q<|gw q<|gw q<|gw q<|gw q<|gw q<|gw q<|zw q (pO · q q)<|fw q<|nw fun a s => ?_
    exact ⟨(false), hg, (s.sb q q q)⟩
   replace hg := br_n hg b0
   obtain ⟨T0, l0, hg⟩ := zB hg
   obtain ⟨H0, F0, hg⟩ := zB hg
   refine S s<|lw<|yw q (fun s => yl_b (mo s q) b0)<|mw q<|gw q<|gw q<|gw q<|gw q<|gw q<|gw q<|fw q<|mw q<|zw q (fun s => yl_b (mo s q) b0)<|zw q (y_not · q)<|hw q<|hw q<|hw q fun a s => ?_
   obtain ⟨S0, u0, z0, D0, K0, r0, o0⟩ := SlR.elemX (s.ft 101 q) l0
   refine gy s q (eL 1 a0 s u25 u0 (lt_of_get l0) q) fun a s => ?_
   obtain ⟨rfl, P0⟩ := r0
   refine gy s q (lP s z0 D0 (o0 0 _ q) u9 q) fun a s => ?_
   refine gV s q func77 (c_r01_Name n _ _ s.lt _ (by omega) _ F0) fun a w hK s => ?_
   refine S s<|zw q (y_not · q)<|zw q (pT · q q)<|fw q<|nw fun a s => ?_
   exact ⟨(!(H0)), hg, (s.sb q q q)⟩
  clear s a; rintro a w ⟨j0, hg, s⟩
  subst v0
  refine c_cond s q (fun i0 => ?_) (fun i0 => ?_)
  ·replace hg := br_t hg i0
   refine S s<|vw<|aw q<|nw fun a s => ?_
   apply wp_ret
   refine p_inR ?_
   refine p_thenR ?_
   refine p_thenR ?_
   refine p_inR ?_
   refine p_thenR ?_
   obtain rfl := si hg
   exact fT f79 s q q q
  replace hg := br_n hg i0
  apply wp_skip
  refine p_inN ?_
  refine S s<|pw<|lw<|mw q<|yw q (y_addN (i := a0) (j := 1) · q q (in64.2 (by omega)))<|aw q<|nw fun a s => ?_
  exact ⟨m1, Nat.lt_succ_self _, ⟨(a0 + 1), hg, (s.sb q q q)⟩⟩
 replace hg := br_f hg h0
 apply wp_exit
 refine p_then ?_
 refine p_then ?_
 refine p_in ?_
 refine S s<|pw<|vw<|aw q<|nw fun a s => ?_
 apply wp_ret
 obtain rfl := si hg
 exact fT f79 s q q q
theorem c_r21_first (n : Nat) (M : Bs) (w0 : World) (hM : bM M w0) (l_ : (List Int)) (b0 : OA) (c0 : Nat) (r0 : sR (Rep.num .i64) M w0 b0 c0 l_) (r : Int) (hg : r21_first n l_ = some r) :
    CA Tryz.prog 80 [sl b0 l_ c0] w0 (fun v w => v = .int .i64 (r)) := by
 unfold r21_first at hg
 refine enter M noB func80 q q hM ?_
 intro a s
 refine S s<|esw 101 r0<|vw<|aw q<|nw<|sw<|vw<|aw q<|nw<|bw fun a s => ?_
 refine c_loop (σ := Nat) (fun m1 a w => ∃ (a0 : Nat), r21_first_L0 n l_ m1 a0 = some r ∧ St (cx f80 M w0) [(0, sl b0 l_ c0), (3, vI (((a0 : Nat) : Int)))] [] [(101, sF (Rep.num .i64) b0 c0 l_)] a w) (fun m1 => m1) n ⟨(0), hg, (s.sb q q q)⟩ ?_
 clear s a; rintro m1 a w ⟨a0, hg, s⟩
 rcases m1 with _ | m1
 ·rw [r21_first_L0] at hg; cases hg
 rw [r21_first_L0] at hg
 refine S s<|sw<|vw<|mw q<|mw q<|yw q (lS · q u113)<|yw q (y_lssN (i := a0) (j := ((l_).length)) · q q)<|nw fun a s => c_dec s q (fun e0 => ?_) (fun e0 => ?_)
 ·replace hg := br_t hg e0
  have u0 := SlR.mx (s.ft 101 q)
  obtain ⟨x5, d0, hg⟩ := zB hg
  refine S s<|kw<|pw<|sw<|bw<|sw<|lw<|mw q<|mw q fun a s => ?_
  obtain ⟨p7, m0, o0, q0, t0, k0, i0⟩ := SlR.elemX (s.ft 101 q) d0
  refine qq s q (eL 1 a0 s u113 m0 (lt_of_get d0) q) fun a s => ?_
  obtain rfl := k0
  refine S s<|yw q (lP · o0 q0 (i0 0 _ q) u26 q)<|yw q (y_neq · q q)<|nw fun a s => c_dec s q (fun g0 => ?_) (fun g0 => ?_)
  ·replace hg := br_t hg g0
   refine S s<|vw<|mw q<|mw q fun a s => ?_
   obtain ⟨v0, l0, n0, p0, s0, j0, h0⟩ := SlR.elemX (s.ft 101 q) d0
   refine qq s q (eL 1 a0 s u113 l0 (lt_of_get d0) q) fun a s => ?_
   obtain rfl := j0
   refine S s<|yw q (lP · n0 p0 (h0 0 _ q) u26 q)<|aw q<|nw fun a s => ?_
   apply wp_ret
   refine p_inR ?_
   refine p_thenR ?_
   refine p_thenR ?_
   refine p_inR ?_
   refine p_thenR ?_
   obtain rfl := si hg
   exact fT f80 s q q q
  replace hg := br_f hg g0
  apply wp_skip
  refine p_inN ?_
  refine S s<|pw<|lw<|mw q<|yw q (y_addN (i := a0) (j := 1) · q q (in64.2 (by omega)))<|aw q<|nw fun a s => ?_
  exact ⟨m1, Nat.lt_succ_self _, ⟨(a0 + 1), hg, (s.sb q q q)⟩⟩
 replace hg := br_f hg e0
 apply wp_exit
 refine p_then ?_
 refine p_then ?_
 refine p_in ?_
 refine S s<|pw<|vw<|aw q<|nw fun a s => ?_
 apply wp_ret
 obtain rfl := si hg
 exact fT f80 s q q q
theorem c_r21_typeError (n : Nat) (M : Bs) (w0 : World) (hM : bM M w0) (x_ : TypeDecl) (b0 : OA) (d0 : Nat) (c0 : OA) (e0 : Nat) (a1 : (x_.Name).length ≤ 9223372036854775807) (L0 : sR Rep.str M w0 b0 d0 x_.Supers) (M0 : sR RFeatDecl M w0 c0 e0 x_.Feats) (r : Int) (hg : r21_typeError n x_ = some r) :
    CA Tryz.prog 112 [.agg #[vT x_.Name, sl b0 x_.Supers d0, sl c0 x_.Feats e0]] w0 (fun v w => v = .int .i64 (r)) := by
 unfold r21_typeError at hg
 refine enter M noB func112 q q hM ?_
 intro a s
 let F : Al Fact := [(101, sF Rep.str b0 d0 x_.Supers), (102, sF RFeatDecl c0 e0 x_.Feats)]
 refine S s<|esw 101 L0<|esw 102 M0<|vw fun a s => ?_
 refine l_seq q (l_box (zs := [vT x_.Name, sl b0 x_.Supers d0, sl c0 x_.Feats e0]) s 1000 q q q q fun b2 a w hb hK s => ?_)
 obtain ⟨r3, P0, hg⟩ := zB hg
 refine S s<|aw q<|nw<|sw<|sw<|lw<|yw q (bF 0 · u49 q)<|yw q (lB 1000 · u9 q) fun a s => ?_
 refine lV s q func77 (c_r01_Name n _ _ s.lt _ (by omega) _ P0) fun a w hK s => ?_
 refine S s<|yw q (y_not · q)<|nw fun a s => c_cond s q (fun n0 => ?_) (fun n0 => ?_)
 ·replace hg := br_t hg n0
  refine S s<|vw<|aw q<|nw fun a s => ?_
  apply wp_ret
  refine p_thenR ?_
  obtain rfl := si hg
  exact fT f112 s q q q
 replace hg := br_n hg n0
 apply wp_skip
 apply pN
 apply wQ
 apply wQ
 obtain ⟨k9, hg, E0⟩ := zJ hg
 refine c_post (fun a w => ∃ (p0 : Bool), k9 p0 = some r ∧ St (cx f112 M w0) [(1, vP b2 0), (17, .bool (p0))] [(1000, Ob.box b2 [vT x_.Name, sl b0 x_.Supers d0, sl c0 x_.Feats e0] 49)] F a w) ?_ ?_
 ·rcases Decidable.em ((256 : Nat) < ((x_.Supers).length)) with h0 | h0
  ·have o0 := decide_eq_true h0
   replace hg := br_t hg h0
   have Y0 := SlR.mx (s.ft 101 q)
   refine S s<|lw<|yw q (bF 1 · u49 q)<|yw q (lB 1000 · u25 q)<|yw q (lS · q u25)<|yw q (fun s => yl_b (y_gtrN (i := ((x_.Supers).length)) (j := 256) s q q) o0)<|mw q<|gw q<|gw q<|gw q<|gw q<|tw_ q<|nw fun a s => ?_
   exact ⟨(true), hg, (s.sb q q q)⟩
  have o0 := decide_eq_false h0
  replace hg := br_f hg h0
  refine S s<|lw<|yw q (bF 1 · u49 q)<|yw q (lB 1000 · u25 q)<|yw q (lS · q u25)<|yw q (fun s => yl_b (y_gtrN (i := ((x_.Supers).length)) (j := 256) s q q) o0)<|mw q<|zw q (bF 2 · u49 q)<|zw q (lB 1000 · u47 q)<|zw q (lS · q u47)<|zw q (y_gtrN (i := ((x_.Feats).length)) (j := 256) · q q)<|fw q<|nw fun a s => ?_
  exact ⟨(decide ((256 : Nat) < ((x_.Feats).length))), hg, (s.sb q q q)⟩
 clear s a; rintro a w ⟨p0, hg, s⟩
 subst E0
 refine c_cond s q (fun j0 => ?_) (fun j0 => ?_)
 ·replace hg := br_t hg j0
  refine S s<|vw<|aw q<|nw fun a s => ?_
  apply wp_ret
  refine p_thenR ?_
  obtain rfl := si hg
  exact fT f112 s q q q
 replace hg := br_n hg j0
 obtain ⟨l1, O0, hg⟩ := zB hg
 refine S s<|kw<|pw<|sw<|sw<|lw<|yw q (bF 1 · u49 q)<|yw q (lB 1000 · u25 q) fun a s => ?_
 refine lV s q func79 (c_r21_allNames n _ _ s.lt _ _ _ (s.ft 101 q) _ _ O0) fun a w hK s => ?_
 refine S s<|yw q (y_not · q)<|nw fun a s => c_cond s q (fun k0 => ?_) (fun k0 => ?_)
 ·replace hg := br_t hg k0
  refine S s<|vw<|aw q<|nw fun a s => ?_
  apply wp_ret
  refine p_thenR ?_
  obtain rfl := si hg
  exact fT f112 s q q q
 replace hg := br_n hg k0
 refine S s<|kw<|pw<|sw<|vw<|aw q<|nw<|bw fun a s => ?_
 refine c_loop (σ := Nat) (fun m1 a w => ∃ (a0 : Nat), r21_typeError_L0 n x_ m1 a0 = some r ∧ St (cx f112 M w0) [(1, vP b2 0), (3, vI (((a0 : Nat) : Int)))] [(1000, Ob.box b2 [vT x_.Name, sl b0 x_.Supers d0, sl c0 x_.Feats e0] 49)] F a w) (fun m1 => m1) n ⟨(0), hg, (s.sb q q q)⟩ ?_
 clear s a; rintro m1 a w ⟨a0, hg, s⟩
 rcases m1 with _ | m1
 ·rw [r21_typeError_L0] at hg; cases hg
 rw [r21_typeError_L0] at hg
 refine S s<|sw<|vw<|mw q<|yw q (bF 2 · u49 q)<|yw q (lB 1000 · u47 q)<|yw q (lS · q u47)<|yw q (y_lssN (i := a0) (j := ((x_.Feats).length)) · q q)<|nw fun a s => c_dec s q (fun l0 => ?_) (fun l0 => ?_)
 ·replace hg := br_t hg l0
  have Z0 := SlR.mx (s.ft 102 q)
  refine S s<|kw<|pw<|sw<|bw<|sw fun a s => ?_
  obtain ⟨R0, hg, D0⟩ := zJ hg
  refine c_post (fun a w => ∃ (q0 : Bool), R0 q0 = some r ∧ St (cx f112 M w0) [(1, vP b2 0), (3, vI (((a0 : Nat) : Int))), (46, .bool (q0))] [(1000, Ob.box b2 [vT x_.Name, sl b0 x_.Supers d0, sl c0 x_.Feats e0] 49)] F a w) ?_ ?_
  ·obtain ⟨n1, g0, hg⟩ := zB hg
   obtain ⟨S0, r0, hg⟩ := zB hg
   rcases Bool.eq_false_or_eq_true (!(S0)) with i0 | i0
   ·replace hg := br_t hg i0
    refine S s<|lw<|yw q (bF 2 · u49 q)<|yw q (lB 1000 · u47 q)<|mw q fun a s => ?_
    obtain ⟨i1, z0, F0, I0, U0, v0, s0⟩ := SlR.elemX (s.ft 102 q) g0
    refine S s<|yw q (eL 2 a0 · u47 z0 (lt_of_get g0) q)<|yw q (pF 0 · u82 q) fun a s => ?_
    obtain ⟨rfl, b1, c1⟩ := RFeatDecl.open v0
    refine qq s q (lP s F0 I0 (s0 0 _ q) u9 q) fun a s => ?_
    refine lV s q func111 (c_r01_Feature n _ _ s.lt _ (by omega) _ r0) fun a w hK s => ?_
    refine S s<|yw q (fun s => yl_b (y_not s q) i0)<|mw q<|gw q<|gw q<|gw q<|gw q<|gw q<|gw q<|gw q<|gw q<|tw_ q<|nw fun a s => ?_
    exact ⟨(true), hg, (s.sb q q q)⟩
   replace hg := br_n hg i0
   obtain ⟨T0, Q0, hg⟩ := zB hg
   refine S s<|lw<|yw q (bF 2 · u49 q)<|yw q (lB 1000 · u47 q)<|mw q fun a s => ?_
   obtain ⟨j1, B0, G0, J0, V0, x0, t0⟩ := SlR.elemX (s.ft 102 q) g0
   refine S s<|yw q (eL 2 a0 · u47 B0 (lt_of_get g0) q)<|yw q (pF 0 · u82 q) fun a s => ?_
   obtain ⟨rfl, d1, e1⟩ := RFeatDecl.open x0
   refine qq s q (lP s G0 J0 (t0 0 _ q) u9 q) fun a s => ?_
   refine lV s q func111 (c_r01_Feature n _ _ s.lt _ (by omega) _ r0) fun a w hK s => ?_
   refine S s<|yw q (fun s => yl_b (y_not s q) i0)<|mw q<|zw q (bF 2 · u49 q)<|zw q (lB 1000 · u47 q)<|hw q fun a s => ?_
   obtain ⟨k1, C0, H0, K0, X0, y0, u0⟩ := SlR.elemX (s.ft 102 q) g0
   refine S s<|zw q (eL 2 a0 · u47 C0 (lt_of_get g0) q)<|zw q (pF 1 · u82 q) fun a s => ?_
   obtain ⟨rfl, g1, h1⟩ := RFeatDecl.open y0
   refine gy s q (lP s H0 K0 (u0 1 _ q) u9 q) fun a s => ?_
   refine gV s q func77 (c_r01_Name n _ _ s.lt _ (by omega) _ Q0) fun a w hK s => ?_
   refine S s<|zw q (y_not · q)<|fw q<|nw fun a s => ?_
   exact ⟨(!(T0)), hg, (s.sb q q q)⟩
  clear s a; rintro a w ⟨q0, hg, s⟩
  subst D0
  refine c_cond s q (fun m0 => ?_) (fun m0 => ?_)
  ·replace hg := br_t hg m0
   refine S s<|vw<|aw q<|nw fun a s => ?_
   apply wp_ret
   refine p_inR ?_
   refine p_thenR ?_
   refine p_thenR ?_
   refine p_inR ?_
   refine p_thenR ?_
   obtain rfl := si hg
   exact fT f112 s q q q
  replace hg := br_n hg m0
  apply wp_skip
  refine p_inN ?_
  refine S s<|pw<|lw<|mw q<|yw q (y_addN (i := a0) (j := 1) · q q (in64.2 (by omega)))<|aw q<|nw fun a s => ?_
  exact ⟨m1, Nat.lt_succ_self _, ⟨(a0 + 1), hg, (s.sb q q q)⟩⟩
 replace hg := br_f hg l0
 apply wp_exit
 refine p_then ?_
 refine p_then ?_
 refine p_in ?_
 refine S s<|pw<|vw<|aw q<|nw fun a s => ?_
 apply wp_ret
 obtain rfl := si hg
 exact fT f112 s q q q
theorem c_r21_typesError (n : Nat) (M : Bs) (w0 : World) (hM : bM M w0) (l_ : (List TypeDecl)) (b0 : OA) (c0 : Nat) (m0 : sR RTypeDecl M w0 b0 c0 l_) (r : Int) (hg : r21_typesError n l_ = some r) :
    CA Tryz.prog 81 [sl b0 l_ c0] w0 (fun v w => v = .int .i64 (r)) := by
 unfold r21_typesError at hg
 refine enter M noB func81 q q hM ?_
 intro a s
 refine S s<|esw 101 m0<|vw<|aw q<|nw<|sw<|vw<|aw q<|nw<|bw fun a s => ?_
 refine c_loop (σ := Nat) (fun m1 a w => ∃ (a0 : Nat), r21_typesError_L0 n l_ m1 a0 = some r ∧ St (cx f81 M w0) [(0, sl b0 l_ c0), (3, vI (((a0 : Nat) : Int)))] [] [(101, sF RTypeDecl b0 c0 l_)] a w) (fun m1 => m1) n ⟨(0), hg, (s.sb q q q)⟩ ?_
 clear s a; rintro m1 a w ⟨a0, hg, s⟩
 rcases m1 with _ | m1
 ·rw [r21_typesError_L0] at hg; cases hg
 rw [r21_typesError_L0] at hg
 refine S s<|sw<|vw<|mw q<|mw q<|yw q (lS · q u32)<|yw q (y_lssN (i := a0) (j := ((l_).length)) · q q)<|nw fun a s => c_dec s q (fun e0 => ?_) (fun e0 => ?_)
 ·replace hg := br_t hg e0
  have v0 := SlR.mx (s.ft 101 q)
  obtain ⟨x5, g0, hg⟩ := zB hg
  obtain ⟨r7, p0, hg⟩ := zB hg
  refine S s<|kw<|pw<|sw<|bw<|sw<|lw<|mw q<|mw q fun a s => ?_
  obtain ⟨y0, j0, k0, l0, u0, i0, h0⟩ := SlR.elemX (s.ft 101 q) g0
  refine qq s q (eL 3 a0 s u32 j0 (lt_of_get g0) q) fun a s => ?_
  obtain ⟨q0, s0, r0, t0, rfl, x0, n0, o0⟩ := RTypeDecl.open i0
  refine S s<|nsw 104 n0<|nsw 105 o0<|yw q (y_ldp · q k0 l0 (by simpa using h0) u49 q q) fun a s => ?_
  refine lV s q func112 (c_r21_typeError n _ _ s.lt _ _ _ _ _ (by omega) (s.ft 104 q) (s.ft 105 q) _ p0) fun a w hK s => ?_
  refine S s<|aw q<|nw<|vw<|mw q<|yw q (y_neq · q q)<|nw fun a s => c_dec s q (fun d0 => ?_) (fun d0 => ?_)
  ·replace hg := br_t hg d0
   refine S s<|vw<|mw q<|aw q<|nw fun a s => ?_
   apply wp_ret
   refine p_inR ?_
   refine p_thenR ?_
   refine p_thenR ?_
   refine p_inR ?_
   refine p_thenR ?_
   obtain rfl := si hg
   exact fT f81 s q q q
  replace hg := br_f hg d0
  apply wp_skip
  refine p_inN ?_
  refine S s<|pw<|lw<|mw q<|yw q (y_addN (i := a0) (j := 1) · q q (in64.2 (by omega)))<|aw q<|nw fun a s => ?_
  exact ⟨m1, Nat.lt_succ_self _, ⟨(a0 + 1), hg, (s.sb q q q)⟩⟩
 replace hg := br_f hg e0
 apply wp_exit
 refine p_then ?_
 refine p_then ?_
 refine p_in ?_
 refine S s<|pw<|vw<|aw q<|nw fun a s => ?_
 apply wp_ret
 obtain rfl := si hg
 exact fT f81 s q q q
theorem c_r19_leaf (n : Nat) (M : Bs) (w0 : World) (hM : bM M w0) (op_ : Int) (r : Bool) (hg : r19_leaf n op_ = some r) :
    CA Tryz.prog 140 [.int .i64 (op_)] w0 (fun v w => v = .bool (r)) := by
 unfold r19_leaf at hg
 refine enter M noB func140 q q hM ?_
 intro a s
 refine S s<|vw<|aw q<|nw<|sw fun a s => ?_
 rcases Decidable.em (op_ = 1) with a0 | a0
 ·have c0 := decide_eq_true a0
  replace hg := br_t hg a0
  refine S s<|lw<|mw q<|yw q (fun s => yl_b (y_eql s q q) c0)<|mw q<|gw q<|gw q<|tw_ q<|mw q<|gw q<|gw q<|tw_ q<|aw q<|nw fun a s => ?_
  apply wp_ret
  obtain rfl := si hg
  exact fT f140 s q q q
 have c0 := decide_eq_false a0
 replace hg := br_f hg a0
 rcases Decidable.em (op_ = 2) with b0 | b0
 ·have d0 := decide_eq_true b0
  replace hg := br_t hg b0
  refine S s<|lw<|mw q<|yw q (fun s => yl_b (y_eql s q q) c0)<|mw q<|hw q<|zw q (fun s => yl_b (y_eql s q q) d0)<|fw q<|mw q<|gw q<|gw q<|tw_ q<|aw q<|nw fun a s => ?_
  apply wp_ret
  obtain rfl := si hg
  exact fT f140 s q q q
 have d0 := decide_eq_false b0
 replace hg := br_f hg b0
 refine S s<|lw<|mw q<|yw q (fun s => yl_b (y_eql s q q) c0)<|mw q<|hw q<|zw q (fun s => yl_b (y_eql s q q) d0)<|fw q<|mw q<|hw q<|zw q (y_eql · q q)<|fw q<|aw q<|nw fun a s => ?_
 apply wp_ret
 obtain rfl := si hg
 exact fT f140 s q q q
theorem c_r19_kids (n : Nat) (M : Bs) (w0 : World) (hM : bM M w0) (d_ : Desc) (b0 : OA) (d0 : Nat) (c0 : OA) (e0 : Nat) (I0 : (d_.Name).length ≤ 9223372036854775807) (x0 : sR Rep.str M w0 b0 d0 d_.Path) (y0 : sR RDesc M w0 c0 e0 d_.Kids) (r : Bool) (hg : r19_kids n d_ = some r) :
    CA Tryz.prog 141 [.agg #[.int .i64 (d_.Op), vT d_.Name, sl b0 d_.Path d0, sl c0 d_.Kids e0]] w0 (fun v w => v = .bool (r)) := by
 unfold r19_kids at hg
 refine enter M noB func141 q q hM ?_
 intro a s
 let F : Al Fact := [(101, sF Rep.str b0 d0 d_.Path), (102, sF RDesc c0 e0 d_.Kids)]
 refine S s<|esw 101 x0<|esw 102 y0<|vw fun a s => ?_
 refine l_seq q (l_box (zs := [vI d_.Op, vT d_.Name, sl b0 d_.Path d0, sl c0 d_.Kids e0]) s 1000 q q q q fun b2 a w hb hK s => ?_)
 refine S s<|aw q<|nw<|vw<|yw q (bF 3 · u60 q)<|yw q (lB 1000 · u58 q)<|yw q (lS · q u58)<|aw q<|nw<|sw<|vw<|yw q (bF 0 · u60 q)<|yw q (lB 1000 · u3 q)<|nw<|bw<|sw<|vw<|yw q (y_eql · q q)<|aw q<|nw fun a s => ?_
 obtain ⟨k3, hg, t0⟩ := zJ hg
 refine c_post (fun a w => ∃ (o0 : Bool), k3 o0 = some r ∧ St (cx f141 M w0) [(1, vP b2 0), (3, vI ((((d_.Kids).length : Nat) : Int))), (9, vI d_.Op), (10, .bool (o0))] [(1000, Ob.box b2 [vI d_.Op, vT d_.Name, sl b0 d_.Path d0, sl c0 d_.Kids e0] 60)] F a w) ?_ ?_
 ·refine c_dec s q (fun j0 => ?_) (fun j0 => ?_)
  ·replace hg := br_t hg j0
   apply wp_skip
   apply pN
   exact ⟨(decide (d_.Op = 1)), hg, (s.sb q q q)⟩
  replace hg := br_f hg j0
  refine S s<|vw<|yw q (y_eql · q q)<|aw q<|nw fun a s => c_dec s q (fun k0 => ?_) (fun k0 => ?_)
  ·replace hg := br_t hg k0
   apply wp_skip
   apply pN
   exact ⟨(decide (d_.Op = 2)), hg, (s.sb q q q)⟩
  replace hg := br_f hg k0
  refine S s<|lw<|yw q (y_eql · q q)<|aw q<|nw fun a s => ?_
  exact ⟨(decide (d_.Op = 3)), hg, (s.sb q q q)⟩
 clear s a; rintro a w ⟨o0, hg, s⟩
 subst t0
 refine c_cond s q (fun l0 => ?_) (fun l0 => ?_)
 ·replace hg := br_t hg l0
  refine S s<|vw<|mw q<|yw q (y_eqlN (i := ((d_.Kids).length)) (j := 0) · q q)<|aw q<|nw fun a s => ?_
  apply wp_ret
  refine p_inR ?_
  refine p_thenR ?_
  obtain rfl := si hg
  exact fT f141 s q q q
 replace hg := br_n hg l0
 refine S s<|vw<|yw q (y_eql · q q)<|aw q<|nw fun a s => c_dec s q (fun m0 => ?_) (fun m0 => ?_)
 ·replace hg := br_t hg m0
  refine S s<|vw<|mw q<|yw q (y_eqlN (i := ((d_.Kids).length)) (j := 1) · q q)<|aw q<|nw fun a s => ?_
  apply wp_ret
  refine p_inR ?_
  refine p_thenR ?_
  obtain rfl := si hg
  exact fT f141 s q q q
 replace hg := br_f hg m0
 refine S s<|vw<|yw q (y_eql · q q)<|aw q<|nw fun a s => c_dec s q (fun n0 => ?_) (fun n0 => ?_)
 ·replace hg := br_t hg n0
  refine S s<|vw<|mw q<|yw q (y_geqN (i := ((d_.Kids).length)) (j := 2) · q q)<|aw q<|nw fun a s => ?_
  apply wp_ret
  refine p_inR ?_
  refine p_thenR ?_
  obtain rfl := si hg
  exact fT f141 s q q q
 replace hg := br_f hg n0
 refine S s<|vw<|yw q (y_eql · q q)<|aw q<|nw fun a s => c_dec s q (fun g0 => ?_) (fun g0 => ?_)
 ·replace hg := br_t hg g0
  refine S s<|sw<|vw<|aw q<|nw<|bw fun a s => ?_
  refine c_loop (σ := Nat) (fun m1 a w => ∃ (a0 : Nat), r19_kids_L0 n d_ m1 a0 = some r ∧ St (cx f141 M w0) [(1, vP b2 0), (3, vI ((((d_.Kids).length : Nat) : Int))), (4, vI (((a0 : Nat) : Int)))] [(1000, Ob.box b2 [vI d_.Op, vT d_.Name, sl b0 d_.Path d0, sl c0 d_.Kids e0] 60)] F a w) (fun m1 => m1) n ⟨(0), hg, (s.sb q q q)⟩ ?_
  clear s a; rintro m1 a w ⟨a0, hg, s⟩
  rcases m1 with _ | m1
  ·rw [r19_kids_L0] at hg; cases hg
  rw [r19_kids_L0] at hg
  refine S s<|sw<|vw<|mw q<|mw q<|yw q (y_lssN (i := a0) (j := ((d_.Kids).length)) · q q)<|nw fun a s => c_dec s q (fun h0 => ?_) (fun h0 => ?_)
  ·replace hg := br_t hg h0
   have H0 := SlR.mx (s.ft 102 q)
   obtain ⟨L0, p0, hg⟩ := zB hg
   refine S s<|kw<|pw<|sw<|bw<|sw<|lw<|yw q (bF 3 · u60 q)<|yw q (lB 1000 · u58 q)<|mw q fun a s => ?_
   obtain ⟨K0, s0, u0, v0, G0, r0, q0⟩ := SlR.elemX (s.ft 102 q) p0
   refine S s<|yw q (eL 4 a0 · u58 s0 (lt_of_get p0) q)<|yw q (pF 0 · u60 q) fun a s => ?_
   obtain ⟨C0, E0, D0, F0, rfl, J0, z0, B0⟩ := RDesc.open r0
   refine S s<|nsw 105 z0<|nsw 106 B0<|yw q (lP · u0 v0 (q0 0 _ q) u3 q)<|yw q (y_eql · q q)<|nw fun a s => c_dec s q (fun i0 => ?_) (fun i0 => ?_)
   ·replace hg := br_t hg i0
    refine S s<|vw<|aw q<|nw fun a s => ?_
    apply wp_ret
    refine p_inR ?_
    refine p_thenR ?_
    refine p_thenR ?_
    refine p_inR ?_
    refine p_thenR ?_
    refine p_inR ?_
    refine p_thenR ?_
    obtain rfl := si hg
    exact fT f141 s q q q
   replace hg := br_f hg i0
   apply wp_skip
   refine p_inN ?_
   refine S s<|pw<|lw<|mw q<|yw q (y_addN (i := a0) (j := 1) · q q (in64.2 (by omega)))<|aw q<|nw fun a s => ?_
   exact ⟨m1, Nat.lt_succ_self _, ⟨(a0 + 1), hg, (s.sb q q q)⟩⟩
  replace hg := br_f hg h0
  apply wp_exit
  refine p_then ?_
  refine p_then ?_
  refine p_in ?_
  refine S s<|pw<|vw<|mw q<|yw q (y_geqN (i := ((d_.Kids).length)) (j := 2) · q q)<|aw q<|nw fun a s => ?_
  apply wp_ret
  refine p_inR ?_
  refine p_thenR ?_
  obtain rfl := si hg
  exact fT f141 s q q q
 replace hg := br_f hg g0
 apply wp_skip
 refine p_inN ?_
 refine S s<|pw<|vw<|aw q<|nw fun a s => ?_
 apply wp_ret
 obtain rfl := si hg
 exact fT f141 s q q q
theorem c_r19_formed (n : Nat) (M : Bs) (w0 : World) (hM : bM M w0) (d_ : Desc) (a0 : OA) (c0 : Nat) (b0 : OA) (d0 : Nat) (G0 : (d_.Name).length ≤ 9223372036854775807) (z0 : sR Rep.str M w0 a0 c0 d_.Path) (B0 : sR RDesc M w0 b0 d0 d_.Kids) (r : Bool) (hg : r19_formed n d_ = some r) :
    CA Tryz.prog 139 [.agg #[.int .i64 (d_.Op), vT d_.Name, sl a0 d_.Path c0, sl b0 d_.Kids d0]] w0 (fun v w => v = .bool (r)) := by
 unfold r19_formed at hg
 refine enter M noB func139 q q hM ?_
 intro a s
 let F : Al Fact := [(101, sF Rep.str a0 c0 d_.Path), (102, sF RDesc b0 d0 d_.Kids)]
 refine S s<|esw 101 z0<|esw 102 B0<|vw fun a s => ?_
 refine l_seq q (l_box (zs := [vI d_.Op, vT d_.Name, sl a0 d_.Path c0, sl b0 d_.Kids d0]) s 1000 q q q q fun b2 a w hb hK s => ?_)
 refine S s<|aw q<|nw<|sw<|sw fun a s => ?_
 obtain ⟨k3, hg, u0⟩ := zJ hg
 refine c_post (fun a w => ∃ (o0 : Bool), k3 o0 = some r ∧ St (cx f139 M w0) [(1, vP b2 0), (21, .bool (o0))] [(1000, Ob.box b2 [vI d_.Op, vT d_.Name, sl a0 d_.Path c0, sl b0 d_.Kids d0] 60)] F a w) ?_ ?_
 ·obtain ⟨r5, h0, hg⟩ := zB hg
  obtain ⟨r8, n0, hg⟩ := zB hg
  rcases Bool.eq_false_or_eq_true (!(r5 == r8)) with g0 | g0
  ·replace hg := br_t hg g0
   refine d_plan s [] [(0, some 0), (1, some 1000), (3, some 0), (4, some 1000), (2, none), (5, none), (6, none), (7, none), (8, none), (9, none), (10, none), (11, none), (12, none), (13, none), (14, none), (15, none), (16, none), (17, none)] q (by kernel_rfl) (by kernel_rfl) q ?_; clear s; intro wr hZ s; have hR := s.wd
   refine S s<|qw hR q (bF 0 · u60 q)<|qw hR q (lB 1000 · u3 q)<|qw hR q (bF 1 · u60 q)<|qw hR q (lB 1000 · u9 q) fun a s => ?_
   refine l_take s q q (l_call (cap := []) s q func140 q (by kernel_rfl) q q (c_r19_leaf n _ _ s.lt _ _ h0) fun L0 a w hK hp s => ?_)
   refine gz hZ hK fun hZ => ?_; clear hK
   obtain rfl := hp
   refine l_take s q q (l_call (cap := []) s q func77 q (by kernel_rfl) q q (c_r01_Name n _ _ s.lt _ (by omega) _ n0) fun M0 a w hK hp s => ?_)
   refine gz hZ hK fun hZ => ?_; clear hK
   obtain rfl := hp
   refine S s<|tw q (fun s => yl_b (y_bne s q q u4) g0)<|tw q (mo · q) fun a s => ?_
   refine l_pass s q (rR q) q q fun a s => ?_
   refine l_pass s q (rR q) q q fun a s => ?_
   refine l_pass s q (rR q) q q fun a s => ?_
   refine l_pass s q (rR q) q q fun a s => ?_
   refine l_pass s q (rR q) q q fun a s => ?_
   refine l_pass s q (rR q) q q fun a s => ?_
   refine l_pass s q (rR q) q q fun a s => ?_
   refine l_pass s q (rR q) q q fun a s => ?_
   refine l_pass s q (rR q) q q fun a s => ?_
   refine S s<|tw q (pT · q q) fun a s => ?_
   clear hR hZ
   apply pN
   exact ⟨(true), hg, (s.sb q q q)⟩
  replace hg := br_n hg g0
  rcases Bool.eq_false_or_eq_true (!(r5)) with i0 | i0
  ·replace hg := br_t hg i0
   refine d_plan s [] [(0, some 0), (1, some 1000), (3, some 0), (4, some 1000), (2, none), (5, none), (6, none), (7, none), (8, none), (9, none), (10, none), (11, none), (12, none), (13, none), (14, none), (15, none), (16, none), (17, none)] q (by kernel_rfl) (by kernel_rfl) q ?_; clear s; intro wr hZ s; have hR := s.wd
   refine S s<|qw hR q (bF 0 · u60 q)<|qw hR q (lB 1000 · u3 q)<|qw hR q (bF 1 · u60 q)<|qw hR q (lB 1000 · u9 q) fun a s => ?_
   refine l_take s q q (l_call (cap := []) s q func140 q (by kernel_rfl) q q (c_r19_leaf n _ _ s.lt _ _ h0) fun O0 a w hK hp s => ?_)
   refine gz hZ hK fun hZ => ?_; clear hK
   obtain rfl := hp
   refine l_take s q q (l_call (cap := []) s q func77 q (by kernel_rfl) q q (c_r01_Name n _ _ s.lt _ (by omega) _ n0) fun P0 a w hK hp s => ?_)
   refine gz hZ hK fun hZ => ?_; clear hK
   obtain rfl := hp
   refine S s<|tw q (fun s => yl_b (y_bne s q q u4) g0)<|tw q (mo · q)<|tw q (bF 0 · u60 q)<|tw q (lB 1000 · u3 q) fun a s => ?_
   refine l_take s q (rR q) (l_call (cap := []) s q func140 q (by kernel_rfl) q q (c_r19_leaf n _ _ s.lt _ _ h0) fun Q0 a w hK hp s => ?_)
   refine gz hZ hK fun hZ => ?_; clear hK
   obtain rfl := hp
   refine S s<|tw q (fun s => yl_b (y_not s q) i0)<|tw q (mo · q)<|tw q (bF 1 · u60 q)<|tw q (lB 1000 · u9 q)<|tw q (y_sne · q q)<|tw q (pT · q q)<|tw q (pO · q q) fun a s => ?_
   clear hR hZ
   apply pN
   exact ⟨(decide ((d_.Name : List UInt8) ≠ [])), hg, (s.sb q q q)⟩
  replace hg := br_n hg i0
  refine d_plan s [] [(0, some 0), (1, some 1000), (3, some 0), (4, some 1000), (2, none), (5, none), (6, none), (7, none), (8, none), (9, none), (10, none), (11, none), (12, none), (13, none), (14, none), (15, none), (16, none), (17, none)] q (by kernel_rfl) (by kernel_rfl) q ?_; clear s; intro wr hZ s; have hR := s.wd
  refine S s<|qw hR q (bF 0 · u60 q)<|qw hR q (lB 1000 · u3 q)<|qw hR q (bF 1 · u60 q)<|qw hR q (lB 1000 · u9 q) fun a s => ?_
  refine l_take s q q (l_call (cap := []) s q func140 q (by kernel_rfl) q q (c_r19_leaf n _ _ s.lt _ _ h0) fun R0 a w hK hp s => ?_)
  refine gz hZ hK fun hZ => ?_; clear hK
  obtain rfl := hp
  refine l_take s q q (l_call (cap := []) s q func77 q (by kernel_rfl) q q (c_r01_Name n _ _ s.lt _ (by omega) _ n0) fun S0 a w hK hp s => ?_)
  refine gz hZ hK fun hZ => ?_; clear hK
  obtain rfl := hp
  refine S s<|tw q (fun s => yl_b (y_bne s q q u4) g0)<|tw q (mo · q)<|tw q (bF 0 · u60 q)<|tw q (lB 1000 · u3 q) fun a s => ?_
  refine l_take s q (rR q) (l_call (cap := []) s q func140 q (by kernel_rfl) q q (c_r19_leaf n _ _ s.lt _ _ h0) fun T0 a w hK hp s => ?_)
  refine gz hZ hK fun hZ => ?_; clear hK
  obtain rfl := hp
  refine S s<|tw q (fun s => yl_b (y_not s q) i0)<|tw q (mo · q) fun a s => ?_
  refine l_pass s q (rR q) q q fun a s => ?_
  refine l_pass s q (rR q) q q fun a s => ?_
  refine l_pass s q (rR q) q q fun a s => ?_
  refine S s<|tw q (pO · q q)<|tw q (pO · q q) fun a s => ?_
  clear hR hZ
  apply pN
  exact ⟨(false), hg, (s.sb q q q)⟩
 clear s a; rintro a w ⟨o0, hg, s⟩
 subst u0
 refine c_cond s q (fun j0 => ?_) (fun j0 => ?_)
 ·replace hg := br_t hg j0
  refine S s<|vw<|aw q<|nw fun a s => ?_
  apply wp_ret
  refine p_thenR ?_
  obtain rfl := si hg
  exact fT f139 s q q q
 replace hg := br_n hg j0
 refine S s<|kw<|pw<|sw<|vw<|yw q (bF 0 · u60 q)<|yw q (lB 1000 · u3 q)<|yw q (y_eql · q q)<|yw q (bF 2 · u60 q)<|yw q (lB 1000 · u25 q)<|yw q (lS · q u25)<|yw q (y_gtrN (i := ((d_.Path).length)) (j := 0) · q q)<|yw q (y_bne · q q u4)<|nw fun a s => c_cond s q (fun k0 => ?_) (fun k0 => ?_)
 ·replace hg := br_t hg k0
  refine S s<|vw<|aw q<|nw fun a s => ?_
  apply wp_ret
  refine p_thenR ?_
  obtain rfl := si hg
  exact fT f139 s q q q
 replace hg := br_n hg k0
 refine S s<|kw<|pw<|sw<|vw<|aw q<|nw fun a s => ?_
 obtain ⟨q0, hg, v0⟩ := zJ hg
 refine c_post (fun a w => q0 = some r ∧ St (cx f139 M w0) [(1, vP b2 0)] [(1000, Ob.box b2 [vI d_.Op, vT d_.Name, sl a0 d_.Path c0, sl b0 d_.Kids d0] 60)] F a w) ?_ ?_
 ·apply wp_block
  refine c_loop (σ := Nat) (fun m1 a w => ∃ (e0 : Nat), r19_formed_L0 n d_ q0 m1 e0 = some r ∧ St (cx f139 M w0) [(1, vP b2 0), (3, vI (((e0 : Nat) : Int)))] [(1000, Ob.box b2 [vI d_.Op, vT d_.Name, sl a0 d_.Path c0, sl b0 d_.Kids d0] 60)] F a w) (fun m1 => m1) n ⟨(0), hg, (s.sb q q q)⟩ ?_
  clear s a; rintro m1 a w ⟨e0, hg, s⟩
  rcases m1 with _ | m1
  ·rw [r19_formed_L0] at hg; cases hg
  rw [r19_formed_L0] at hg
  refine S s<|sw<|vw<|mw q<|yw q (bF 2 · u60 q)<|yw q (lB 1000 · u25 q)<|yw q (lS · q u25)<|yw q (y_lssN (i := e0) (j := ((d_.Path).length)) · q q)<|nw fun a s => c_dec s q (fun l0 => ?_) (fun l0 => ?_)
  ·replace hg := br_t hg l0
   have F0 := SlR.mx (s.ft 101 q)
   obtain ⟨U0, p0, hg⟩ := zB hg
   obtain ⟨J0, C0, hg⟩ := zB hg
   refine S s<|kw<|pw<|sw<|bw<|sw<|lw<|yw q (bF 2 · u60 q)<|yw q (lB 1000 · u25 q)<|mw q fun a s => ?_
   obtain ⟨I0, t0, x0, y0, E0, s0, r0⟩ := SlR.elemX (s.ft 101 q) p0
   refine qq s q (eL 1 e0 s u25 t0 (lt_of_get p0) q) fun a s => ?_
   obtain ⟨rfl, H0⟩ := s0
   refine qq s q (lP s x0 y0 (r0 0 _ q) u9 q) fun a s => ?_
   refine lV s q func111 (c_r01_Feature n _ _ s.lt _ (by omega) _ C0) fun a w hK s => ?_
   refine S s<|yw q (y_not · q)<|nw fun a s => c_cond s q (fun m0 => ?_) (fun m0 => ?_)
   ·replace hg := br_t hg m0
    refine S s<|vw<|aw q<|nw fun a s => ?_
    apply wp_ret
    refine p_inR ?_
    refine p_thenR ?_
    refine p_thenR ?_
    refine p_inR ?_
    refine p_thenR ?_
    obtain rfl := si hg
    exact fT f139 s q q q
   replace hg := br_n hg m0
   apply wp_skip
   refine p_inN ?_
   refine S s<|pw<|lw<|mw q<|yw q (y_addN (i := e0) (j := 1) · q q (in64.2 (by omega)))<|aw q<|nw fun a s => ?_
   exact ⟨m1, Nat.lt_succ_self _, ⟨(e0 + 1), hg, (s.sb q q q)⟩⟩
  replace hg := br_f hg l0
  apply wp_exit
  refine p_then ?_
  refine p_then ?_
  refine p_in ?_
  apply pN
  exact ⟨hg, (s.sb q q q)⟩
 clear s a; rintro a w ⟨hg, s⟩
 subst v0
 obtain ⟨K0, D0, hg⟩ := zB hg
 refine S s<|sw<|lw<|yw q (y_loadAll (kk := 1000) · q q u60 q q) fun a s => ?_
 refine lV s q func141 (c_r19_kids n _ _ s.lt _ _ _ _ _ (by omega) (s.ft 101 q) (s.ft 102 q) _ D0) fun a w hK s => ?_
 refine S s<|aw q<|nw fun a s => ?_
 apply wp_ret
 obtain rfl := si hg
 exact fT f139 s q q q
theorem c_r19_check (n : Nat) : ∀ (M : Bs) (w0 : World) (hM : bM M w0) (d_ : Desc) (a0 : OA) (c0 : Nat) (b0 : OA) (d0 : Nat) (P0 : (d_.Name).length ≤ 9223372036854775807) (v0 : sR Rep.str M w0 a0 c0 d_.Path) (x0 : sR RDesc M w0 b0 d0 d_.Kids) (level_ : Int) (r : Int) (hg : r19_check n d_ level_ = some r),
    CA Tryz.prog 137 [.agg #[.int .i64 (d_.Op), vT d_.Name, sl a0 d_.Path c0, sl b0 d_.Kids d0], .int .i64 (level_)] w0 (fun v w => v = .int .i64 (r)) := by
 induction n with
 | zero => intros; rename_i hg; rw [r19_check] at hg; cases hg
 | succ n c_self =>
 intro M w0 hM d_ a0 c0 b0 d0 P0 v0 x0 level_ r hg
 rw [r19_check] at hg
 refine enter M noB func137 q q hM ?_
 intro a s
 let F : Al Fact := [(101, sF Rep.str a0 c0 d_.Path), (102, sF RDesc b0 d0 d_.Kids)]
 refine S s<|esw 101 v0<|esw 102 x0<|vw fun a s => ?_
 refine l_seq q (l_box (zs := [vI d_.Op, vT d_.Name, sl a0 d_.Path c0, sl b0 d_.Kids d0]) s 1000 q q q q fun b2 a w hb hK s => ?_)
 refine S s<|aw q<|nw<|sw<|sw fun a s => ?_
 obtain ⟨k3, hg, F0⟩ := zJ hg
 refine c_post (fun a w => ∃ (u0 : Bool), k3 u0 = some r ∧ St (cx f137 M w0) [(1, vI level_), (2, vP b2 0), (21, .bool (u0))] [(1000, Ob.box b2 [vI d_.Op, vT d_.Name, sl a0 d_.Path c0, sl b0 d_.Kids d0] 60)] F a w) ?_ ?_
 ·rcases Decidable.em ((64 : Int) < level_) with h0 | h0
  ·have k0 := decide_eq_true h0
   replace hg := br_t hg h0
   refine S s<|lw<|mw q<|yw q (fun s => yl_b (y_gtr s q q) k0)<|mw q<|gw q<|gw q<|gw q<|gw q<|tw_ q<|mw q<|gw q<|gw q<|gw q<|gw q<|tw_ q<|nw fun a s => ?_
   exact ⟨(true), hg, (s.sb q q q)⟩
  have k0 := decide_eq_false h0
  replace hg := br_f hg h0
  rcases Decidable.em ((64 : Nat) < ((d_.Path).length)) with i0 | i0
  ·have s0 := decide_eq_true i0
   replace hg := br_t hg i0
   have X0 := SlR.mx (s.ft 101 q)
   refine S s<|lw<|mw q<|yw q (fun s => yl_b (y_gtr s q q) k0)<|mw q<|zw q (bF 2 · u60 q)<|zw q (lB 1000 · u25 q)<|zw q (lS · q u25)<|zw q (fun s => yl_b (y_gtrN (i := ((d_.Path).length)) (j := 64) s q q) s0)<|fw q<|mw q<|gw q<|gw q<|gw q<|gw q<|tw_ q<|nw fun a s => ?_
   exact ⟨(true), hg, (s.sb q q q)⟩
  have s0 := decide_eq_false i0
  replace hg := br_f hg i0
  refine S s<|lw<|mw q<|yw q (fun s => yl_b (y_gtr s q q) k0)<|mw q<|zw q (bF 2 · u60 q)<|zw q (lB 1000 · u25 q)<|zw q (lS · q u25)<|zw q (fun s => yl_b (y_gtrN (i := ((d_.Path).length)) (j := 64) s q q) s0)<|fw q<|mw q<|zw q (bF 3 · u60 q)<|zw q (lB 1000 · u58 q)<|zw q (lS · q u58)<|zw q (y_gtrN (i := ((d_.Kids).length)) (j := 256) · q q)<|fw q<|nw fun a s => ?_
  exact ⟨(decide ((256 : Nat) < ((d_.Kids).length))), hg, (s.sb q q q)⟩
 clear s a; rintro a w ⟨u0, hg, s⟩
 subst F0
 refine c_cond s q (fun q0 => ?_) (fun q0 => ?_)
 ·replace hg := br_t hg q0
  refine S s<|vw<|aw q<|nw fun a s => ?_
  apply wp_ret
  refine p_thenR ?_
  obtain rfl := si hg
  exact fT f137 s q q q
 replace hg := br_n hg q0
 apply wp_skip
 apply pN
 apply wQ
 apply wQ
 obtain ⟨k9, hg, G0⟩ := zJ hg
 refine c_post (fun a w => ∃ (t0 : Bool), k9 t0 = some r ∧ St (cx f137 M w0) [(1, vI level_), (2, vP b2 0), (29, .bool (t0))] [(1000, Ob.box b2 [vI d_.Op, vT d_.Name, sl a0 d_.Path c0, sl b0 d_.Kids d0] 60)] F a w) ?_ ?_
 ·rcases Decidable.em (d_.Op < 1) with g0 | g0
  ·have r0 := decide_eq_true g0
   replace hg := br_t hg g0
   refine S s<|lw<|yw q (bF 0 · u60 q)<|yw q (lB 1000 · u3 q)<|yw q (fun s => yl_b (y_lss s q q) r0)<|mw q<|gw q<|gw q<|gw q<|tw_ q<|nw fun a s => ?_
   exact ⟨(true), hg, (s.sb q q q)⟩
  have r0 := decide_eq_false g0
  replace hg := br_f hg g0
  refine S s<|lw<|yw q (bF 0 · u60 q)<|yw q (lB 1000 · u3 q)<|yw q (fun s => yl_b (y_lss s q q) r0)<|mw q<|zw q (bF 0 · u60 q)<|zw q (lB 1000 · u3 q)<|zw q (y_gtr · q q)<|fw q<|nw fun a s => ?_
  exact ⟨(decide ((8 : Int) < d_.Op)), hg, (s.sb q q q)⟩
 clear s a; rintro a w ⟨t0, hg, s⟩
 subst G0
 refine c_cond s q (fun l0 => ?_) (fun l0 => ?_)
 ·replace hg := br_t hg l0
  refine S s<|vw<|aw q<|nw fun a s => ?_
  apply wp_ret
  refine p_thenR ?_
  obtain rfl := si hg
  exact fT f137 s q q q
 replace hg := br_n hg l0
 obtain ⟨a1, L0, hg⟩ := zB hg
 refine S s<|kw<|pw<|sw<|sw<|lw<|yw q (y_loadAll (kk := 1000) · q q u60 q q) fun a s => ?_
 refine lV s q func139 (c_r19_formed n _ _ s.lt _ _ _ _ _ (by omega) (s.ft 101 q) (s.ft 102 q) _ L0) fun a w hK s => ?_
 refine S s<|yw q (y_not · q)<|nw fun a s => c_cond s q (fun m0 => ?_) (fun m0 => ?_)
 ·replace hg := br_t hg m0
  refine S s<|vw<|aw q<|nw fun a s => ?_
  apply wp_ret
  refine p_thenR ?_
  obtain rfl := si hg
  exact fT f137 s q q q
 replace hg := br_n hg m0
 obtain ⟨D0, hg⟩ := zC hg
 refine S s<|kw<|pw<|sw<|lw<|mw q<|yw q (y_add · q q (in64.2 D0))<|aw q<|nw<|sw<|vw<|yw q (bF 0 · u60 q)<|yw q (lB 1000 · u3 q)<|yw q (y_eql · q q)<|nw fun a s => ?_
 obtain ⟨O0, hg, E0⟩ := zJ hg
 refine c_post (fun a w => ∃ (j0 : Int), O0 j0 = some r ∧ St (cx f137 M w0) [(2, vP b2 0), (5, vI j0)] [(1000, Ob.box b2 [vI d_.Op, vT d_.Name, sl a0 d_.Path c0, sl b0 d_.Kids d0] 60)] F a w) ?_ ?_
 ·refine c_dec s q (fun n0 => ?_) (fun n0 => ?_)
  ·replace hg := br_t hg n0
   refine S s<|lw<|mw q<|aw q<|nw fun a s => ?_
   exact ⟨(level_), hg, (s.sb q q q)⟩
  replace hg := br_f hg n0
  apply wp_skip
  apply pN
  exact ⟨(level_ + 1), hg, (s.sb q q q)⟩
 clear s a; rintro a w ⟨j0, hg, s⟩
 subst E0
 refine S s<|sw<|vw<|aw q<|nw<|bw fun a s => ?_
 refine c_loop (σ := Nat) (fun m1 a w => ∃ (e0 : Nat), r19_check_L0 n d_ (r19_check n) j0 m1 e0 = some r ∧ St (cx f137 M w0) [(2, vP b2 0), (5, vI j0), (6, vI (((e0 : Nat) : Int)))] [(1000, Ob.box b2 [vI d_.Op, vT d_.Name, sl a0 d_.Path c0, sl b0 d_.Kids d0] 60)] F a w) (fun m1 => m1) n ⟨(0), hg, (s.sb q q q)⟩ ?_
 clear s a; rintro m1 a w ⟨e0, hg, s⟩
 rcases m1 with _ | m1
 ·rw [r19_check_L0] at hg; cases hg
 rw [r19_check_L0] at hg
 refine S s<|sw<|vw<|mw q<|yw q (bF 3 · u60 q)<|yw q (lB 1000 · u58 q)<|yw q (lS · q u58)<|yw q (y_lssN (i := e0) (j := ((d_.Kids).length)) · q q)<|nw fun a s => c_dec s q (fun o0 => ?_) (fun o0 => ?_)
 ·replace hg := br_t hg o0
  have V0 := SlR.mx (s.ft 102 q)
  obtain ⟨c1, y0, hg⟩ := zB hg
  obtain ⟨b1, M0, hg⟩ := zB hg
  refine S s<|kw<|pw<|sw<|bw<|sw<|lw<|yw q (bF 3 · u60 q)<|yw q (lB 1000 · u58 q)<|mw q fun a s => ?_
  obtain ⟨Z0, C0, H0, I0, U0, B0, z0⟩ := SlR.elemX (s.ft 102 q) y0
  refine qq s q (eL 4 e0 s u58 C0 (lt_of_get y0) q) fun a s => ?_
  obtain ⟨Q0, S0, R0, T0, rfl, Y0, J0, K0⟩ := RDesc.open B0
  refine S s<|nsw 105 J0<|nsw 106 K0<|yw q (y_ldp · q H0 I0 (by simpa using z0) u60 q q)<|mw q fun a s => ?_
  refine lV s q func137 (c_self _ _ s.lt _ _ _ _ _ (by omega) (s.ft 105 q) (s.ft 106 q) _ _ M0) fun a w hK s => ?_
  refine S s<|aw q<|nw<|vw<|mw q<|yw q (y_neq · q q)<|nw fun a s => c_dec s q (fun p0 => ?_) (fun p0 => ?_)
  ·replace hg := br_t hg p0
   refine S s<|vw<|mw q<|aw q<|nw fun a s => ?_
   apply wp_ret
   refine p_inR ?_
   refine p_thenR ?_
   refine p_thenR ?_
   refine p_inR ?_
   refine p_thenR ?_
   obtain rfl := si hg
   exact fT f137 s q q q
  replace hg := br_f hg p0
  apply wp_skip
  refine p_inN ?_
  refine S s<|pw<|lw<|mw q<|yw q (y_addN (i := e0) (j := 1) · q q (in64.2 (by omega)))<|aw q<|nw fun a s => ?_
  exact ⟨m1, Nat.lt_succ_self _, ⟨(e0 + 1), hg, (s.sb q q q)⟩⟩
 replace hg := br_f hg o0
 apply wp_exit
 refine p_then ?_
 refine p_then ?_
 refine p_in ?_
 refine S s<|pw<|vw<|aw q<|nw fun a s => ?_
 apply wp_ret
 obtain rfl := si hg
 exact fT f137 s q q q
theorem c_r19_Check (n : Nat) (M : Bs) (w0 : World) (hM : bM M w0) (d_ : Desc) (a0 : OA) (c0 : Nat) (b0 : OA) (d0 : Nat) (i0 : (d_.Name).length ≤ 9223372036854775807) (e0 : sR Rep.str M w0 a0 c0 d_.Path) (g0 : sR RDesc M w0 b0 d0 d_.Kids) (r : Int) (hg : r19_Check n d_ = some r) :
    CA Tryz.prog 129 [.agg #[.int .i64 (d_.Op), vT d_.Name, sl a0 d_.Path c0, sl b0 d_.Kids d0]] w0 (fun v w => v = .int .i64 (r)) := by
 unfold r19_Check at hg
 refine enter M noB func129 q q hM ?_
 intro a s
 refine S s<|esw 101 e0<|esw 102 g0<|vw fun a s => ?_
 refine l_seq q (l_box (zs := [vI d_.Op, vT d_.Name, sl a0 d_.Path c0, sl b0 d_.Kids d0]) s 1000 q q q q fun b2 a w hb hK s => ?_)
 obtain ⟨r3, h0, hg⟩ := zB hg
 refine S s<|aw q<|nw<|sw<|lw<|yw q (y_loadAll (kk := 1000) · q q u60 q q) fun a s => ?_
 refine lV s q func137 (c_r19_check n _ _ s.lt _ _ _ _ _ (by omega) (s.ft 101 q) (s.ft 102 q) _ _ h0) fun a w hK s => ?_
 refine S s<|aw q<|nw fun a s => ?_
 apply wp_ret
 obtain rfl := si hg
 exact fT f129 s q q q
theorem c_r21_defError (n : Nat) (M : Bs) (w0 : World) (hM : bM M w0) (x_ : Def) (b0 : OA) (d0 : Nat) (c0 : OA) (e0 : Nat) (i0 : OA) (j0 : Nat) (S0 : (x_.Name).length ≤ 9223372036854775807) (T0 : (x_.Strict.Name).length ≤ 9223372036854775807) (x0 : sR Rep.str M w0 b0 d0 x_.Strict.Path) (y0 : sR RDesc M w0 c0 e0 x_.Strict.Kids) (z0 : sR RDesc M w0 i0 j0 x_.Defaults) (r : Int) (hg : r21_defError n x_ = some r) :
    CA Tryz.prog 113 [.agg #[vT x_.Name, .int .i64 (x_.Strict.Op), vT x_.Strict.Name, sl b0 x_.Strict.Path d0, sl c0 x_.Strict.Kids e0, sl i0 x_.Defaults j0]] w0 (fun v w => v = .int .i64 (r)) := by
 unfold r21_defError at hg
 refine enter M noB func113 q q hM ?_
 intro a s
 let F : Al Fact := [(101, sF Rep.str b0 d0 x_.Strict.Path), (102, sF RDesc c0 e0 x_.Strict.Kids), (103, sF RDesc i0 j0 x_.Defaults)]
 let B : List Value := [vT x_.Name, vI x_.Strict.Op, vT x_.Strict.Name, sl b0 x_.Strict.Path d0, sl c0 x_.Strict.Kids e0, sl i0 x_.Defaults j0]
 refine S s<|esw 101 x0<|esw 102 y0<|esw 103 z0<|vw fun a s => ?_
 refine l_seq q (l_box (zs := B) s 1000 q q q q fun b2 a w hb hK s => ?_)
 obtain ⟨r3, F0, hg⟩ := zB hg
 refine S s<|aw q<|nw<|sw<|sw<|lw<|yw q (bF 0 · u62 q)<|yw q (lB 1000 · u9 q) fun a s => ?_
 refine lV s q func77 (c_r01_Name n _ _ s.lt _ (by omega) _ F0) fun a w hK s => ?_
 refine S s<|yw q (y_not · q)<|nw fun a s => c_cond s q (fun l0 => ?_) (fun l0 => ?_)
 ·replace hg := br_t hg l0
  refine S s<|vw<|aw q<|nw fun a s => ?_
  apply wp_ret
  refine p_thenR ?_
  obtain rfl := si hg
  exact fT f113 s q q q
 replace hg := br_n hg l0
 refine S s<|kw<|pw<|sw<|vw<|yw q (bF 5 · u62 q)<|yw q (lB 1000 · u58 q)<|yw q (lS · q u58)<|yw q (y_gtrN (i := ((x_.Defaults).length)) (j := 256) · q q)<|nw fun a s => c_dec s q (fun m0 => ?_) (fun m0 => ?_)
 ·replace hg := br_t hg m0
  have Q0 := SlR.mx (s.ft 103 q)
  refine S s<|vw<|aw q<|nw fun a s => ?_
  apply wp_ret
  refine p_thenR ?_
  obtain rfl := si hg
  exact fT f113 s q q q
 replace hg := br_f hg m0
 obtain ⟨H0, D0, hg⟩ := zB hg
 refine S s<|kw<|pw<|sw<|lw<|yw q (bF 1 · u62 q)<|yw q (y_loadBox (kk := 1000) (n := 4) (vs := [vI x_.Strict.Op, vT x_.Strict.Name, sl b0 x_.Strict.Path d0, sl c0 x_.Strict.Kids e0]) · q q u60 q q q q) fun a s => ?_
 refine lV s q func129 (c_r19_Check n _ _ s.lt _ _ _ _ _ (by omega) (s.ft 101 q) (s.ft 102 q) _ D0) fun a w hK s => ?_
 refine S s<|aw q<|nw<|sw<|vw<|aw q<|nw<|bw fun a s => ?_
 refine c_loop (σ := Nat) (fun m1 a w => ∃ (g0 : Int) (a0 : Nat), r21_defError_L0 n x_ m1 g0 a0 = some r ∧ St (cx f113 M w0) [(1, vP b2 0), (3, vI g0), (4, vI (((a0 : Nat) : Int)))] [(1000, Ob.box b2 B 62)] F a w) (fun m1 => m1) n ⟨(H0), (0), hg, (s.sb q q q)⟩ ?_
 clear s a; rintro m1 a w ⟨g0, a0, hg, s⟩
 rcases m1 with _ | m1
 ·rw [r21_defError_L0] at hg; cases hg
 rw [r21_defError_L0] at hg
 apply wQ
 apply wQ
 obtain ⟨G0, hg, t0⟩ := zJ hg
 refine c_post (fun a w => ∃ (o0 : Bool), G0 o0 = some r ∧ St (cx f113 M w0) [(1, vP b2 0), (3, vI g0), (4, vI (((a0 : Nat) : Int))), (24, .bool (o0))] [(1000, Ob.box b2 B 62)] F a w) ?_ ?_
 ·rcases Decidable.em (a0 < ((x_.Defaults).length)) with h0 | h0
  ·have n0 := decide_eq_true h0
   replace hg := br_t hg h0
   have R0 := SlR.mx (s.ft 103 q)
   refine S s<|lw<|mw q<|yw q (bF 5 · u62 q)<|yw q (lB 1000 · u58 q)<|yw q (lS · q u58)<|yw q (fun s => yl_b (y_lssN (i := a0) (j := ((x_.Defaults).length)) s q q) n0)<|mw q<|hw q<|zw q (y_eql · q q)<|tw_ q<|nw fun a s => ?_
   exact ⟨(decide (g0 = 0)), hg, (s.sb q q q)⟩
  have n0 := decide_eq_false h0
  replace hg := br_f hg h0
  refine S s<|lw<|mw q<|yw q (bF 5 · u62 q)<|yw q (lB 1000 · u58 q)<|yw q (lS · q u58)<|yw q (fun s => yl_b (y_lssN (i := a0) (j := ((x_.Defaults).length)) s q q) n0)<|mw q<|gw q<|gw q<|fw q<|nw fun a s => ?_
  exact ⟨(false), hg, (s.sb q q q)⟩
 clear s a; rintro a w ⟨o0, hg, s⟩
 subst t0
 refine c_cond s q (fun k0 => ?_) (fun k0 => ?_)
 ·replace hg := br_t hg k0
  obtain ⟨X0, p0, hg⟩ := zB hg
  obtain ⟨I0, E0, hg⟩ := zB hg
  refine S s<|kw<|pw<|sw<|bw<|lw<|yw q (bF 5 · u62 q)<|yw q (lB 1000 · u58 q)<|mw q fun a s => ?_
  obtain ⟨V0, s0, u0, v0, O0, r0, q0⟩ := SlR.elemX (s.ft 103 q) p0
  refine qq s q (eL 4 a0 s u58 s0 (lt_of_get p0) q) fun a s => ?_
  obtain ⟨J0, L0, K0, M0, rfl, U0, B0, C0⟩ := RDesc.open r0
  refine S s<|nsw 106 B0<|nsw 107 C0<|yw q (y_ldp · q u0 v0 (by simpa using q0) u60 q q) fun a s => ?_
  refine lV s q func129 (c_r19_Check n _ _ s.lt _ _ _ _ _ (by omega) (s.ft 106 q) (s.ft 107 q) _ E0) fun a w hK s => ?_
  refine asg s q q fun a s => ?_
  apply wO
  refine p_inN ?_
  obtain ⟨P0, hg⟩ := zC hg
  refine S s<|pw<|lw<|mw q<|yw q (y_addN (i := a0) (j := 1) · q q (in64.2 (by omega)))<|aw q<|nw fun a s => ?_
  exact ⟨m1, Nat.lt_succ_self _, ⟨(I0), (a0 + 1), hg, (s.sb q q q)⟩⟩
 replace hg := br_n hg k0
 apply wp_exit
 refine p_then ?_
 refine p_then ?_
 refine p_in ?_
 refine S s<|pw<|vw<|mw q<|aw q<|nw fun a s => ?_
 apply wp_ret
 obtain rfl := si hg
 exact fT f113 s q q q
theorem c_r21_defsError (n : Nat) (M : Bs) (w0 : World) (hM : bM M w0) (l_ : (List Def)) (b0 : OA) (c0 : Nat) (m0 : sR RDef M w0 b0 c0 l_) (r : Int) (hg : r21_defsError n l_ = some r) :
    CA Tryz.prog 82 [sl b0 l_ c0] w0 (fun v w => v = .int .i64 (r)) := by
 unfold r21_defsError at hg
 refine enter M noB func82 q q hM ?_
 intro a s
 refine S s<|esw 101 m0<|vw<|aw q<|nw<|sw<|vw<|aw q<|nw<|bw fun a s => ?_
 refine c_loop (σ := Nat) (fun m1 a w => ∃ (a0 : Nat), r21_defsError_L0 n l_ m1 a0 = some r ∧ St (cx f82 M w0) [(0, sl b0 l_ c0), (3, vI (((a0 : Nat) : Int)))] [] [(101, sF RDef b0 c0 l_)] a w) (fun m1 => m1) n ⟨(0), hg, (s.sb q q q)⟩ ?_
 clear s a; rintro m1 a w ⟨a0, hg, s⟩
 rcases m1 with _ | m1
 ·rw [r21_defsError_L0] at hg; cases hg
 rw [r21_defsError_L0] at hg
 refine S s<|sw<|vw<|mw q<|mw q<|yw q (lS · q u33)<|yw q (y_lssN (i := a0) (j := ((l_).length)) · q q)<|nw fun a s => c_dec s q (fun e0 => ?_) (fun e0 => ?_)
 ·replace hg := br_t hg e0
  have z0 := SlR.mx (s.ft 101 q)
  obtain ⟨x5, g0, hg⟩ := zB hg
  obtain ⟨r7, q0, hg⟩ := zB hg
  refine S s<|kw<|pw<|sw<|bw<|sw<|lw<|mw q<|mw q fun a s => ?_
  obtain ⟨D0, j0, k0, l0, y0, i0, h0⟩ := SlR.elemX (s.ft 101 q) g0
  refine qq s q (eL 6 a0 s u33 j0 (lt_of_get g0) q) fun a s => ?_
  obtain ⟨r0, u0, s0, v0, t0, x0, rfl, B0, C0, n0, o0, p0⟩ := RDef.open i0
  refine S s<|nsw 105 n0<|nsw 106 o0<|nsw 107 p0<|yw q (y_ldp · q k0 l0 (by simpa using h0) u62 q q) fun a s => ?_
  refine lV s q func113 (c_r21_defError n _ _ s.lt _ _ _ _ _ _ _ (by omega) (by omega) (s.ft 105 q) (s.ft 106 q) (s.ft 107 q) _ q0) fun a w hK s => ?_
  refine S s<|aw q<|nw<|vw<|mw q<|yw q (y_neq · q q)<|nw fun a s => c_dec s q (fun d0 => ?_) (fun d0 => ?_)
  ·replace hg := br_t hg d0
   refine S s<|vw<|mw q<|aw q<|nw fun a s => ?_
   apply wp_ret
   refine p_inR ?_
   refine p_thenR ?_
   refine p_thenR ?_
   refine p_inR ?_
   refine p_thenR ?_
   obtain rfl := si hg
   exact fT f82 s q q q
  replace hg := br_f hg d0
  apply wp_skip
  refine p_inN ?_
  refine S s<|pw<|lw<|mw q<|yw q (y_addN (i := a0) (j := 1) · q q (in64.2 (by omega)))<|aw q<|nw fun a s => ?_
  exact ⟨m1, Nat.lt_succ_self _, ⟨(a0 + 1), hg, (s.sb q q q)⟩⟩
 replace hg := br_f hg e0
 apply wp_exit
 refine p_then ?_
 refine p_then ?_
 refine p_in ?_
 refine S s<|pw<|vw<|aw q<|nw fun a s => ?_
 apply wp_ret
 obtain rfl := si hg
 exact fT f82 s q q q
theorem c_r01_Word (n : Nat) (M : Bs) (w0 : World) (hM : bM M w0) (s_ : (List UInt8)) (y0 : (s_).length ≤ 9223372036854775807) (r : Bool) (hg : r01_Word n s_ = some r) :
    CA Tryz.prog 114 [vT s_] w0 (fun v w => v = .bool (r)) := by
 unfold r01_Word at hg
 refine enter M noB func114 q q hM ?_
 intro a s
 refine S s<|vw<|aw q<|nw<|sw<|sw fun a s => ?_
 obtain ⟨k1, hg, t0⟩ := zJ hg
 refine c_post (fun a w => ∃ (r0 : Bool), k1 r0 = some r ∧ St (cx f114 M w0) [(0, vT s_), (11, .bool (r0))] [] [] a w) ?_ ?_
 ·rcases Decidable.em (((s_).length) < 1) with k0 | k0
  ·have q0 := decide_eq_true k0
   replace hg := br_t hg k0
   refine S s<|lw<|mw q<|yw q (y_lenStrN · q u9)<|yw q (fun s => yl_b (y_lssN (i := ((s_).length)) (j := 1) s q q) q0)<|mw q<|gw q<|gw q<|gw q<|tw_ q<|nw fun a s => ?_
   exact ⟨(true), hg, (s.sb q q q)⟩
  have q0 := decide_eq_false k0
  replace hg := br_f hg k0
  refine S s<|lw<|mw q<|yw q (y_lenStrN · q u9)<|yw q (fun s => yl_b (y_lssN (i := ((s_).length)) (j := 1) s q q) q0)<|mw q<|hw q<|zw q (y_lenStrN · q u9)<|zw q (y_gtrN (i := ((s_).length)) (j := 32) · q q)<|fw q<|nw fun a s => ?_
  exact ⟨(decide ((32 : Nat) < ((s_).length))), hg, (s.sb q q q)⟩
 clear s a; rintro a w ⟨r0, hg, s⟩
 subst t0
 refine c_cond s q (fun m0 => ?_) (fun m0 => ?_)
 ·replace hg := br_t hg m0
  refine S s<|vw<|aw q<|nw fun a s => ?_
  apply wp_ret
  refine p_thenR ?_
  obtain rfl := si hg
  exact fT f114 s q q q
 replace hg := br_n hg m0
 refine S s<|kw<|pw<|sw<|vw<|aw q<|nw<|bw fun a s => ?_
 refine c_loop (σ := Nat) (fun m1 a w => ∃ (a0 : Nat), r01_Word_L0 n s_ m1 a0 = some r ∧ St (cx f114 M w0) [(0, vT s_), (3, vI (((a0 : Nat) : Int)))] [] [] a w) (fun m1 => m1) n ⟨(0), hg, (s.sb q q q)⟩ ?_
 clear s a; rintro m1 a w ⟨a0, hg, s⟩
 rcases m1 with _ | m1
 ·rw [r01_Word_L0] at hg; cases hg
 rw [r01_Word_L0] at hg
 refine S s<|sw<|vw<|mw q<|mw q<|yw q (y_lenStrN · q u9)<|yw q (y_lssN (i := a0) (j := ((s_).length)) · q q)<|nw fun a s => c_dec s q (fun n0 => ?_) (fun n0 => ?_)
 ·replace hg := br_t hg n0
  have x0 : (s_).length ≤ 9223372036854775807 := (by omega)
  refine S s<|kw<|pw<|sw<|bw<|sw fun a s => ?_
  obtain ⟨k8, hg, u0⟩ := zJ hg
  refine c_post (fun a w => ∃ (s0 : Bool), k8 s0 = some r ∧ St (cx f114 M w0) [(0, vT s_), (3, vI (((a0 : Nat) : Int))), (45, .bool (s0))] [] [] a w) ?_ ?_
  ·obtain ⟨b0, c0, hg⟩ := zB hg
   rcases Decidable.em (b0.toNat < 33) with g0 | g0
   ·have d0 := decide_eq_true g0
    replace hg := br_t hg g0
    refine S s<|lw<|mw q<|mw q<|yw q (y_indexN (i := a0) · q q u9 q c0)<|yw q (fun s => yl_b (y_lssN (i := b0.toNat) (j := 33) s q q) d0)<|mw q<|gw q<|gw q<|gw q<|gw q<|tw_ q<|mw q<|gw q<|gw q<|gw q<|gw q<|tw_ q<|mw q<|gw q<|gw q<|gw q<|gw q<|tw_ q<|mw q<|gw q<|gw q<|gw q<|gw q<|tw_ q<|nw fun a s => ?_
    exact ⟨(true), hg, (s.sb q q q)⟩
   have d0 := decide_eq_false g0
   replace hg := br_f hg g0
   rcases Decidable.em ((126 : Nat) < b0.toNat) with h0 | h0
   ·have i0 := decide_eq_true h0
    replace hg := br_t hg h0
    refine S s<|lw<|mw q<|mw q<|yw q (y_indexN (i := a0) · q q u9 q c0)<|yw q (fun s => yl_b (y_lssN (i := b0.toNat) (j := 33) s q q) d0)<|mw q<|hw q<|hw q<|zw q (y_indexN (i := a0) · q q u9 q c0)<|zw q (fun s => yl_b (y_gtrN (i := b0.toNat) (j := 126) s q q) i0)<|fw q<|mw q<|gw q<|gw q<|gw q<|gw q<|tw_ q<|mw q<|gw q<|gw q<|gw q<|gw q<|tw_ q<|mw q<|gw q<|gw q<|gw q<|gw q<|tw_ q<|nw fun a s => ?_
    exact ⟨(true), hg, (s.sb q q q)⟩
   have i0 := decide_eq_false h0
   replace hg := br_f hg h0
   obtain ⟨v0, o0, hg⟩ := zB hg
   rcases Bool.eq_false_or_eq_true (v0) with e0 | e0
   ·replace hg := br_t hg e0
    refine S s<|lw<|mw q<|mw q<|yw q (y_indexN (i := a0) · q q u9 q c0)<|yw q (fun s => yl_b (y_lssN (i := b0.toNat) (j := 33) s q q) d0)<|mw q<|hw q<|hw q<|zw q (y_indexN (i := a0) · q q u9 q c0)<|zw q (fun s => yl_b (y_gtrN (i := b0.toNat) (j := 126) s q q) i0)<|fw q<|mw q<|hw q<|hw q<|zw q (y_indexN (i := a0) · q q u9 q c0) fun a s => ?_
    refine gC s q func130 (c_r01_upper n _ _ s.lt _ _ o0) fun z0 a w hK hp s => ?_
    obtain rfl := hp.trans (congrArg Value.bool e0)
    refine S s<|fw q<|mw q<|gw q<|gw q<|gw q<|gw q<|tw_ q<|mw q<|gw q<|gw q<|gw q<|gw q<|tw_ q<|nw fun a s => ?_
    exact ⟨(true), hg, (s.sb q q q)⟩
   replace hg := br_n hg e0
   rcases Decidable.em (b0.toNat = 34) with j0 | j0
   ·have p0 := decide_eq_true j0
    replace hg := br_t hg j0
    refine S s<|lw<|mw q<|mw q<|yw q (y_indexN (i := a0) · q q u9 q c0)<|yw q (fun s => yl_b (y_lssN (i := b0.toNat) (j := 33) s q q) d0)<|mw q<|hw q<|hw q<|zw q (y_indexN (i := a0) · q q u9 q c0)<|zw q (fun s => yl_b (y_gtrN (i := b0.toNat) (j := 126) s q q) i0)<|fw q<|mw q<|hw q<|hw q<|zw q (y_indexN (i := a0) · q q u9 q c0) fun a s => ?_
    refine gC s q func130 (c_r01_upper n _ _ s.lt _ _ o0) fun B0 a w hK hp s => ?_
    obtain rfl := hp.trans (congrArg Value.bool e0)
    refine S s<|fw q<|mw q<|hw q<|hw q<|zw q (y_indexN (i := a0) · q q u9 q c0)<|zw q (fun s => yl_b (y_eqlN (i := b0.toNat) (j := 34) s q q) p0)<|fw q<|mw q<|gw q<|gw q<|gw q<|gw q<|tw_ q<|nw fun a s => ?_
    exact ⟨(true), hg, (s.sb q q q)⟩
   have p0 := decide_eq_false j0
   replace hg := br_f hg j0
   refine S s<|lw<|mw q<|mw q<|yw q (y_indexN (i := a0) · q q u9 q c0)<|yw q (fun s => yl_b (y_lssN (i := b0.toNat) (j := 33) s q q) d0)<|mw q<|hw q<|hw q<|zw q (y_indexN (i := a0) · q q u9 q c0)<|zw q (fun s => yl_b (y_gtrN (i := b0.toNat) (j := 126) s q q) i0)<|fw q<|mw q<|hw q<|hw q<|zw q (y_indexN (i := a0) · q q u9 q c0) fun a s => ?_
   refine gC s q func130 (c_r01_upper n _ _ s.lt _ _ o0) fun C0 a w hK hp s => ?_
   obtain rfl := hp.trans (congrArg Value.bool e0)
   refine S s<|fw q<|mw q<|hw q<|hw q<|zw q (y_indexN (i := a0) · q q u9 q c0)<|zw q (fun s => yl_b (y_eqlN (i := b0.toNat) (j := 34) s q q) p0)<|fw q<|mw q<|hw q<|hw q<|zw q (y_indexN (i := a0) · q q u9 q c0)<|zw q (y_eqlN (i := b0.toNat) (j := 92) · q q)<|fw q<|nw fun a s => ?_
   exact ⟨(decide (b0.toNat = 92)), hg, (s.sb q q q)⟩
  clear s a; rintro a w ⟨s0, hg, s⟩
  subst u0
  refine c_cond s q (fun l0 => ?_) (fun l0 => ?_)
  ·replace hg := br_t hg l0
   refine S s<|vw<|aw q<|nw fun a s => ?_
   apply wp_ret
   refine p_inR ?_
   refine p_thenR ?_
   refine p_thenR ?_
   refine p_inR ?_
   refine p_thenR ?_
   obtain rfl := si hg
   exact fT f114 s q q q
  replace hg := br_n hg l0
  apply wp_skip
  refine p_inN ?_
  refine S s<|pw<|lw<|mw q<|yw q (y_addN (i := a0) (j := 1) · q q (in64.2 (by omega)))<|aw q<|nw fun a s => ?_
  exact ⟨m1, Nat.lt_succ_self _, ⟨(a0 + 1), hg, (s.sb q q q)⟩⟩
 replace hg := br_f hg n0
 apply wp_exit
 refine p_then ?_
 refine p_then ?_
 refine p_in ?_
 refine S s<|pw<|vw<|aw q<|nw fun a s => ?_
 apply wp_ret
 obtain rfl := si hg
 exact fT f114 s q q q
theorem c_r21_entriesError (n : Nat) (M : Bs) (w0 : World) (hM : bM M w0) (l_ : (List EntryDecl)) (b0 : OA) (c0 : Nat) (Q0 : sR REntryDecl M w0 b0 c0 l_) (r : Int) (hg : r21_entriesError n l_ = some r) :
    CA Tryz.prog 83 [sl b0 l_ c0] w0 (fun v w => v = .int .i64 (r)) := by
 unfold r21_entriesError at hg
 refine enter M noB func83 q q hM ?_
 intro a s
 refine S s<|esw 101 Q0<|vw<|aw q<|nw<|sw<|vw<|aw q<|nw<|bw fun a s => ?_
 refine c_loop (σ := Nat) (fun m1 a w => ∃ (a0 : Nat), r21_entriesError_L0 n l_ m1 a0 = some r ∧ St (cx f83 M w0) [(0, sl b0 l_ c0), (3, vI (((a0 : Nat) : Int)))] [] [(101, sF REntryDecl b0 c0 l_)] a w) (fun m1 => m1) n ⟨(0), hg, (s.sb q q q)⟩ ?_
 clear s a; rintro m1 a w ⟨a0, hg, s⟩
 rcases m1 with _ | m1
 ·rw [r21_entriesError_L0] at hg; cases hg
 rw [r21_entriesError_L0] at hg
 refine S s<|sw<|vw<|mw q<|mw q<|yw q (lS · q u34)<|yw q (y_lssN (i := a0) (j := ((l_).length)) · q q)<|nw fun a s => c_dec s q (fun h0 => ?_) (fun h0 => ?_)
 ·replace hg := br_t hg h0
  have b2 := SlR.mx (s.ft 101 q)
  obtain ⟨x5, d0, hg⟩ := zB hg
  refine S s<|kw<|pw<|sw<|bw<|sw<|sw<|lw<|mw q<|mw q fun a s => ?_
  obtain ⟨p7, D0, J0, P0, Z1, x0, r0⟩ := SlR.elemX (s.ft 101 q) d0
  refine S s<|yw q (eL 7 a0 · u34 D0 (lt_of_get d0) q)<|yw q (pF 0 · u89 q) fun a s => ?_
  obtain ⟨y1, Q1, z1, R1, B1, S1, C1, T1, rfl, e1, k2, l2, g1, h1, i1⟩ := REntryDecl.open x0
  refine S s<|nsw 106 e1<|nsw 107 g1<|nsw 108 h1<|nsw 109 i1<|yw q (lP · J0 P0 (r0 0 _ q) u25 q)<|yw q (lS · q u25)<|yw q (y_eqlN (i := ((x5.Words).length)) (j := 0) · q q)<|nw fun a s => c_dec s q (fun k0 => ?_) (fun k0 => ?_)
  ·replace hg := br_t hg k0
   refine S s<|vw<|aw q<|nw fun a s => ?_
   apply wp_ret
   refine p_thenR ?_
   refine p_inR ?_
   refine p_thenR ?_
   refine p_thenR ?_
   refine p_inR ?_
   refine p_thenR ?_
   obtain rfl := si hg
   exact fT f83 s q q q
  replace hg := br_f hg k0
  refine S s<|kw<|pw<|sw<|vw<|aw q<|nw fun a s => ?_
  obtain ⟨m0, hg, E0⟩ := zJ hg
  refine c_post (fun a w => m0 = some r ∧ St (cx f83 M w0) [(0, sl b0 l_ c0), (3, vI (((a0 : Nat) : Int)))] [] [(101, sF REntryDecl b0 c0 l_)] a w) ?_ ?_
  ·apply wp_block
   refine c_loop (σ := Nat) (fun m2 a w => ∃ (e0 : Nat), r21_entriesError_L1 n x5 m0 m2 e0 = some r ∧ St (cx f83 M w0) [(0, sl b0 l_ c0), (3, vI (((a0 : Nat) : Int))), (4, vI (((e0 : Nat) : Int)))] [] [(101, sF REntryDecl b0 c0 l_)] a w) (fun m2 => m2) n ⟨(0), hg, (s.sb q q q)⟩ ?_
   clear s a; rintro m2 a w ⟨e0, hg, s⟩
   rcases m2 with _ | m2
   ·rw [r21_entriesError_L1] at hg; cases hg
   rw [r21_entriesError_L1] at hg
   refine S s<|sw<|vw<|mw q<|mw q<|mw q fun a s => ?_
   obtain ⟨n2, y0, F0, K0, U1, s0, n0⟩ := SlR.elemX (s.ft 101 q) d0
   refine S s<|yw q (eL 7 a0 · u34 y0 (lt_of_get d0) q)<|yw q (pF 0 · u89 q) fun a s => ?_
   obtain ⟨l1, D1, n1, E1, o1, F1, p1, G1, rfl, R0, c2, d2, S0, T0, U0⟩ := REntryDecl.open s0
   refine S s<|nsw 114 R0<|nsw 115 S0<|nsw 116 T0<|nsw 117 U0<|yw q (lP · F0 K0 (n0 0 _ q) u25 q)<|yw q (lS · q u25)<|yw q (y_lssN (i := e0) (j := ((x5.Words).length)) · q q)<|nw fun a s => c_dec s q (fun g0 => ?_) (fun g0 => ?_)
   ·replace hg := br_t hg g0
    have a2 := SlR.mx (s.ft 114 q)
    obtain ⟨t2, l0, hg⟩ := zB hg
    obtain ⟨r2, j1, hg⟩ := zB hg
    refine S s<|kw<|pw<|sw<|bw<|sw<|lw<|mw q<|mw q fun a s => ?_
    obtain ⟨o2, z0, G0, L0, V1, t0, o0⟩ := SlR.elemX (s.ft 101 q) d0
    refine S s<|yw q (eL 7 a0 · u34 z0 (lt_of_get d0) q)<|yw q (pF 0 · u89 q) fun a s => ?_
    obtain ⟨q1, H1, r1, I1, s1, J1, t1, K1, rfl, V0, e2, g2, X0, Y0, Z0⟩ := REntryDecl.open t0
    refine S s<|nsw 122 V0<|nsw 123 X0<|nsw 124 Y0<|nsw 125 Z0<|yw q (lP · G0 L0 (o0 0 _ q) u25 q)<|mw q fun a s => ?_
    obtain ⟨p2, B0, H0, M0, X1, u0, p0⟩ := SlR.elemX (s.ft 122 q) l0
    refine qq s q (eL 1 e0 s u25 B0 (lt_of_get l0) q) fun a s => ?_
    obtain ⟨rfl, h2⟩ := u0
    refine qq s q (lP s H0 M0 (p0 0 _ q) u9 q) fun a s => ?_
    refine lV s q func114 (c_r01_Word n _ _ s.lt _ (by omega) _ j1) fun a w hK s => ?_
    refine S s<|yw q (y_not · q)<|nw fun a s => c_cond s q (fun i0 => ?_) (fun i0 => ?_)
    ·replace hg := br_t hg i0
     refine S s<|vw<|aw q<|nw fun a s => ?_
     apply wp_ret
     refine p_inR ?_
     refine p_thenR ?_
     refine p_thenR ?_
     refine p_inR ?_
     refine p_thenR ?_
     refine p_inR ?_
     refine p_thenR ?_
     refine p_thenR ?_
     refine p_inR ?_
     refine p_thenR ?_
     obtain rfl := si hg
     exact fT f83 s q q q
    replace hg := br_n hg i0
    apply wp_skip
    refine p_inN ?_
    refine S s<|pw<|lw<|mw q<|yw q (y_addN (i := e0) (j := 1) · q q (in64.2 (by omega)))<|aw q<|nw fun a s => ?_
    exact ⟨m2, Nat.lt_succ_self _, ⟨(e0 + 1), hg, (s.sb q q q)⟩⟩
   replace hg := br_f hg g0
   apply wp_exit
   refine p_then ?_
   refine p_then ?_
   refine p_in ?_
   apply pN
   exact ⟨hg, (s.sb q q q)⟩
  clear s a; rintro a w ⟨hg, s⟩
  subst E0
  obtain ⟨s2, k1, hg⟩ := zB hg
  refine S s<|sw<|lw<|mw q<|mw q fun a s => ?_
  obtain ⟨q2, C0, I0, O0, Y1, v0, q0⟩ := SlR.elemX (s.ft 101 q) d0
  refine S s<|yw q (eL 7 a0 · u34 C0 (lt_of_get d0) q)<|yw q (pF 1 · u89 q) fun a s => ?_
  obtain ⟨u1, L1, v1, M1, w1, O1, x1, P1, rfl, a1, i2, j2, b1, c1, d1⟩ := REntryDecl.open v0
  refine S s<|nsw 130 a1<|nsw 131 b1<|nsw 132 c1<|nsw 133 d1<|yw q (lD [_, _, _, _, _, _] 1 · I0 O0 q0 u62 q) fun a s => ?_
  refine lV s q func113 (c_r21_defError n _ _ s.lt _ _ _ _ _ _ _ (by omega) (by omega) (s.ft 131 q) (s.ft 132 q) (s.ft 133 q) _ k1) fun a w hK s => ?_
  refine S s<|aw q<|nw<|vw<|mw q<|yw q (y_neq · q q)<|nw fun a s => c_dec s q (fun j0 => ?_) (fun j0 => ?_)
  ·replace hg := br_t hg j0
   refine S s<|vw<|mw q<|aw q<|nw fun a s => ?_
   apply wp_ret
   refine p_inR ?_
   refine p_thenR ?_
   refine p_thenR ?_
   refine p_inR ?_
   refine p_thenR ?_
   obtain rfl := si hg
   exact fT f83 s q q q
  replace hg := br_f hg j0
  apply wp_skip
  refine p_inN ?_
  refine S s<|pw<|lw<|mw q<|yw q (y_addN (i := a0) (j := 1) · q q (in64.2 (by omega)))<|aw q<|nw fun a s => ?_
  exact ⟨m1, Nat.lt_succ_self _, ⟨(a0 + 1), hg, (s.sb q q q)⟩⟩
 replace hg := br_f hg h0
 apply wp_exit
 refine p_then ?_
 refine p_then ?_
 refine p_in ?_
 refine S s<|pw<|vw<|aw q<|nw fun a s => ?_
 apply wp_ret
 obtain rfl := si hg
 exact fT f83 s q q q
theorem c_r21_quotable (n : Nat) (M : Bs) (w0 : World) (hM : bM M w0) (s_ : (List UInt8)) (m0 : (s_).length ≤ 9223372036854775807) (r : Bool) (hg : r21_quotable n s_ = some r) :
    CA Tryz.prog 131 [vT s_] w0 (fun v w => v = .bool (r)) := by
 unfold r21_quotable at hg
 refine enter M noB func131 q q hM ?_
 intro a s
 refine S s<|vw<|aw q<|nw<|sw<|vw<|aw q<|nw<|bw fun a s => ?_
 refine c_loop (σ := Nat) (fun m1 a w => ∃ (a0 : Nat), r21_quotable_L0 n s_ m1 a0 = some r ∧ St (cx f131 M w0) [(0, vT s_), (3, vI (((a0 : Nat) : Int)))] [] [] a w) (fun m1 => m1) n ⟨(0), hg, (s.sb q q q)⟩ ?_
 clear s a; rintro m1 a w ⟨a0, hg, s⟩
 rcases m1 with _ | m1
 ·rw [r21_quotable_L0] at hg; cases hg
 rw [r21_quotable_L0] at hg
 refine S s<|sw<|vw<|mw q<|mw q<|yw q (y_lenStrN · q u9)<|yw q (y_lssN (i := a0) (j := ((s_).length)) · q q)<|nw fun a s => c_dec s q (fun g0 => ?_) (fun g0 => ?_)
 ·replace hg := br_t hg g0
  have l0 : (s_).length ≤ 9223372036854775807 := (by omega)
  refine S s<|kw<|pw<|sw<|bw<|sw fun a s => ?_
  obtain ⟨k4, hg, k0⟩ := zJ hg
  refine c_post (fun a w => ∃ (j0 : Bool), k4 j0 = some r ∧ St (cx f131 M w0) [(0, vT s_), (3, vI (((a0 : Nat) : Int))), (25, .bool (j0))] [] [] a w) ?_ ?_
  ·obtain ⟨c6, b0, hg⟩ := zB hg
   rcases Decidable.em (c6.toNat < 32) with c0 | c0
   ·have e0 := decide_eq_true c0
    replace hg := br_t hg c0
    refine S s<|lw<|mw q<|mw q<|yw q (y_indexN (i := a0) · q q u9 q b0)<|yw q (fun s => yl_b (y_lssN (i := c6.toNat) (j := 32) s q q) e0)<|mw q<|gw q<|gw q<|gw q<|gw q<|tw_ q<|mw q<|gw q<|gw q<|gw q<|gw q<|tw_ q<|nw fun a s => ?_
    exact ⟨(true), hg, (s.sb q q q)⟩
   have e0 := decide_eq_false c0
   replace hg := br_f hg c0
   rcases Decidable.em ((126 : Nat) < c6.toNat) with d0 | d0
   ·have i0 := decide_eq_true d0
    replace hg := br_t hg d0
    refine S s<|lw<|mw q<|mw q<|yw q (y_indexN (i := a0) · q q u9 q b0)<|yw q (fun s => yl_b (y_lssN (i := c6.toNat) (j := 32) s q q) e0)<|mw q<|hw q<|hw q<|zw q (y_indexN (i := a0) · q q u9 q b0)<|zw q (fun s => yl_b (y_gtrN (i := c6.toNat) (j := 126) s q q) i0)<|fw q<|mw q<|gw q<|gw q<|gw q<|gw q<|tw_ q<|nw fun a s => ?_
    exact ⟨(true), hg, (s.sb q q q)⟩
   have i0 := decide_eq_false d0
   replace hg := br_f hg d0
   refine S s<|lw<|mw q<|mw q<|yw q (y_indexN (i := a0) · q q u9 q b0)<|yw q (fun s => yl_b (y_lssN (i := c6.toNat) (j := 32) s q q) e0)<|mw q<|hw q<|hw q<|zw q (y_indexN (i := a0) · q q u9 q b0)<|zw q (fun s => yl_b (y_gtrN (i := c6.toNat) (j := 126) s q q) i0)<|fw q<|mw q<|hw q<|hw q<|zw q (y_indexN (i := a0) · q q u9 q b0)<|zw q (y_eqlN (i := c6.toNat) (j := 34) · q q)<|fw q<|nw fun a s => ?_
   exact ⟨(decide (c6.toNat = 34)), hg, (s.sb q q q)⟩
  clear s a; rintro a w ⟨j0, hg, s⟩
  subst k0
  refine c_cond s q (fun h0 => ?_) (fun h0 => ?_)
  ·replace hg := br_t hg h0
   refine S s<|vw<|aw q<|nw fun a s => ?_
   apply wp_ret
   refine p_inR ?_
   refine p_thenR ?_
   refine p_thenR ?_
   refine p_inR ?_
   refine p_thenR ?_
   obtain rfl := si hg
   exact fT f131 s q q q
  replace hg := br_n hg h0
  apply wp_skip
  refine p_inN ?_
  refine S s<|pw<|lw<|mw q<|yw q (y_addN (i := a0) (j := 1) · q q (in64.2 (by omega)))<|aw q<|nw fun a s => ?_
  exact ⟨m1, Nat.lt_succ_self _, ⟨(a0 + 1), hg, (s.sb q q q)⟩⟩
 replace hg := br_f hg g0
 apply wp_exit
 refine p_then ?_
 refine p_then ?_
 refine p_in ?_
 refine S s<|pw<|vw<|aw q<|nw fun a s => ?_
 apply wp_ret
 obtain rfl := si hg
 exact fT f131 s q q q
theorem c_r21_affixError (n : Nat) (M : Bs) (w0 : World) (hM : bM M w0) (a_ : Affix) (b0 : OA) (c0 : Nat) (K0 : sR RChange M w0 b0 c0 a_.Pairs) (r : Int) (hg : r21_affixError n a_ = some r) :
    CA Tryz.prog 115 [.agg #[.int .i64 (a_.Kind), sl b0 a_.Pairs c0]] w0 (fun v w => v = .int .i64 (r)) := by
 unfold r21_affixError at hg
 refine enter M noB func115 q q hM ?_
 intro a s
 replace s := s.es 101 K0
 apply wR
 refine l_seq q (l_box (zs := [vI a_.Kind, sl b0 a_.Pairs c0]) s 1000 q q q q fun b2 a w hb hK s => ?_)
 refine S s<|aw q<|nw<|sw<|sw fun a s => ?_
 obtain ⟨k3, hg, D0⟩ := zJ hg
 refine c_post (fun a w => ∃ (p0 : Bool), k3 p0 = some r ∧ St (cx f115 M w0) [(1, vP b2 0), (16, .bool (p0))] [(1000, Ob.box b2 [vI a_.Kind, sl b0 a_.Pairs c0] 92)] [(101, sF RChange b0 c0 a_.Pairs)] a w) ?_ ?_
 ·rcases Decidable.em (a_.Kind ≠ 0) with g0 | g0
  ·have i0 := decide_eq_true g0
   replace hg := br_t hg g0
   rcases Decidable.em (a_.Kind ≠ 1) with h0 | h0
   ·have n0 := decide_eq_true h0
    replace hg := br_t hg h0
    refine S s<|lw<|yw q (bF 0 · u92 q)<|yw q (lB 1000 · u3 q)<|yw q (fun s => yl_b (y_neq s q q) i0)<|mw q<|zw q (bF 0 · u92 q)<|zw q (lB 1000 · u3 q)<|zw q (fun s => yl_b (y_neq s q q) n0)<|tw_ q<|mw q<|zw q (bF 0 · u92 q)<|zw q (lB 1000 · u3 q)<|zw q (y_neq · q q)<|tw_ q<|nw fun a s => ?_
    exact ⟨(decide (a_.Kind ≠ 2)), hg, (s.sb q q q)⟩
   have n0 := decide_eq_false h0
   replace hg := br_f hg h0
   refine S s<|lw<|yw q (bF 0 · u92 q)<|yw q (lB 1000 · u3 q)<|yw q (fun s => yl_b (y_neq s q q) i0)<|mw q<|zw q (bF 0 · u92 q)<|zw q (lB 1000 · u3 q)<|zw q (fun s => yl_b (y_neq s q q) n0)<|tw_ q<|mw q<|gw q<|gw q<|gw q<|fw q<|nw fun a s => ?_
   exact ⟨(false), hg, (s.sb q q q)⟩
  have i0 := decide_eq_false g0
  replace hg := br_f hg g0
  refine S s<|lw<|yw q (bF 0 · u92 q)<|yw q (lB 1000 · u3 q)<|yw q (fun s => yl_b (y_neq s q q) i0)<|mw q<|gw q<|gw q<|gw q<|fw q<|mw q<|gw q<|gw q<|gw q<|fw q<|nw fun a s => ?_
  exact ⟨(false), hg, (s.sb q q q)⟩
 clear s a; rintro a w ⟨p0, hg, s⟩
 subst D0
 refine c_cond s q (fun l0 => ?_) (fun l0 => ?_)
 ·replace hg := br_t hg l0
  refine S s<|vw<|aw q<|nw fun a s => ?_
  apply wp_ret
  refine p_thenR ?_
  obtain rfl := si hg
  exact fT f115 s q q q
 replace hg := br_n hg l0
 refine S s<|kw<|pw<|sw<|vw<|yw q (bF 0 · u92 q)<|yw q (lB 1000 · u3 q)<|yw q (y_eql · q q)<|yw q (bF 1 · u92 q)<|yw q (lB 1000 · u90 q)<|yw q (lS · q u90)<|yw q (y_eqlN (i := ((a_.Pairs).length)) (j := 0) · q q)<|yw q (y_bne · q q u4)<|nw fun a s => c_cond s q (fun m0 => ?_) (fun m0 => ?_)
 ·replace hg := br_t hg m0
  refine S s<|vw<|aw q<|nw fun a s => ?_
  apply wp_ret
  refine p_thenR ?_
  obtain rfl := si hg
  exact fT f115 s q q q
 replace hg := br_n hg m0
 refine S s<|kw<|pw<|sw<|vw<|aw q<|nw<|bw fun a s => ?_
 refine c_loop (σ := Nat) (fun m1 a w => ∃ (a0 : Nat), r21_affixError_L0 n a_ m1 a0 = some r ∧ St (cx f115 M w0) [(1, vP b2 0), (3, vI (((a0 : Nat) : Int)))] [(1000, Ob.box b2 [vI a_.Kind, sl b0 a_.Pairs c0] 92)] [(101, sF RChange b0 c0 a_.Pairs)] a w) (fun m1 => m1) n ⟨(0), hg, (s.sb q q q)⟩ ?_
 clear s a; rintro m1 a w ⟨a0, hg, s⟩
 rcases m1 with _ | m1
 ·rw [r21_affixError_L0] at hg; cases hg
 rw [r21_affixError_L0] at hg
 refine S s<|sw<|vw<|mw q<|yw q (bF 1 · u92 q)<|yw q (lB 1000 · u90 q)<|yw q (lS · q u90)<|yw q (y_lssN (i := a0) (j := ((a_.Pairs).length)) · q q)<|nw fun a s => c_dec s q (fun j0 => ?_) (fun j0 => ?_)
 ·replace hg := br_t hg j0
  have T0 := SlR.mx (s.ft 101 q)
  refine S s<|kw<|pw<|sw<|bw<|sw fun a s => ?_
  obtain ⟨M0, hg, C0⟩ := zJ hg
  refine c_post (fun a w => ∃ (o0 : Bool), M0 o0 = some r ∧ St (cx f115 M w0) [(1, vP b2 0), (3, vI (((a0 : Nat) : Int))), (49, .bool (o0))] [(1000, Ob.box b2 [vI a_.Kind, sl b0 a_.Pairs c0] 92)] [(101, sF RChange b0 c0 a_.Pairs)] a w) ?_ ?_
  ·obtain ⟨e1, d0, hg⟩ := zB hg
   obtain ⟨O0, q0, hg⟩ := zB hg
   rcases Bool.eq_false_or_eq_true (!(O0)) with e0 | e0
   ·replace hg := br_t hg e0
    refine S s<|lw<|yw q (bF 1 · u92 q)<|yw q (lB 1000 · u90 q)<|mw q fun a s => ?_
    obtain ⟨b1, y0, E0, H0, Q0, u0, r0⟩ := SlR.elemX (s.ft 101 q) d0
    refine S s<|yw q (eL 2 a0 · u90 y0 (lt_of_get d0) q)<|yw q (pF 0 · u144 q) fun a s => ?_
    obtain ⟨rfl, U0, V0⟩ := RChange.open u0
    refine qq s q (lP s E0 H0 (r0 0 _ q) u9 q) fun a s => ?_
    refine lV s q func131 (c_r21_quotable n _ _ s.lt _ (by omega) _ q0) fun a w hK s => ?_
    refine S s<|yw q (fun s => yl_b (y_not s q) e0)<|mw q<|gw q<|gw q<|gw q<|gw q<|gw q<|gw q<|gw q<|gw q<|tw_ q<|nw fun a s => ?_
    exact ⟨(true), hg, (s.sb q q q)⟩
   replace hg := br_n hg e0
   obtain ⟨P0, L0, hg⟩ := zB hg
   refine S s<|lw<|yw q (bF 1 · u92 q)<|yw q (lB 1000 · u90 q)<|mw q fun a s => ?_
   obtain ⟨c1, z0, F0, I0, R0, v0, s0⟩ := SlR.elemX (s.ft 101 q) d0
   refine S s<|yw q (eL 2 a0 · u90 z0 (lt_of_get d0) q)<|yw q (pF 0 · u144 q) fun a s => ?_
   obtain ⟨rfl, X0, Y0⟩ := RChange.open v0
   refine qq s q (lP s F0 I0 (s0 0 _ q) u9 q) fun a s => ?_
   refine lV s q func131 (c_r21_quotable n _ _ s.lt _ (by omega) _ q0) fun a w hK s => ?_
   refine S s<|yw q (fun s => yl_b (y_not s q) e0)<|mw q<|zw q (bF 1 · u92 q)<|zw q (lB 1000 · u90 q)<|hw q fun a s => ?_
   obtain ⟨d1, B0, G0, J0, S0, x0, t0⟩ := SlR.elemX (s.ft 101 q) d0
   refine S s<|zw q (eL 2 a0 · u90 B0 (lt_of_get d0) q)<|zw q (pF 1 · u144 q) fun a s => ?_
   obtain ⟨rfl, Z0, a1⟩ := RChange.open x0
   refine gy s q (lP s G0 J0 (t0 1 _ q) u9 q) fun a s => ?_
   refine gV s q func131 (c_r21_quotable n _ _ s.lt _ (by omega) _ L0) fun a w hK s => ?_
   refine S s<|zw q (y_not · q)<|fw q<|nw fun a s => ?_
   exact ⟨(!(P0)), hg, (s.sb q q q)⟩
  clear s a; rintro a w ⟨o0, hg, s⟩
  subst C0
  refine c_cond s q (fun k0 => ?_) (fun k0 => ?_)
  ·replace hg := br_t hg k0
   refine S s<|vw<|aw q<|nw fun a s => ?_
   apply wp_ret
   refine p_inR ?_
   refine p_thenR ?_
   refine p_thenR ?_
   refine p_inR ?_
   refine p_thenR ?_
   obtain rfl := si hg
   exact fT f115 s q q q
  replace hg := br_n hg k0
  apply wp_skip
  refine p_inN ?_
  refine S s<|pw<|lw<|mw q<|yw q (y_addN (i := a0) (j := 1) · q q (in64.2 (by omega)))<|aw q<|nw fun a s => ?_
  exact ⟨m1, Nat.lt_succ_self _, ⟨(a0 + 1), hg, (s.sb q q q)⟩⟩
 replace hg := br_f hg j0
 apply wp_exit
 refine p_then ?_
 refine p_then ?_
 refine p_in ?_
 refine S s<|pw<|vw<|aw q<|nw fun a s => ?_
 apply wp_ret
 obtain rfl := si hg
 exact fT f115 s q q q
theorem c_r21_lexError (n : Nat) (M : Bs) (w0 : World) (hM : bM M w0) (l_ : (List LexDecl)) (b0 : OA) (c0 : Nat) (u0 : sR RLexDecl M w0 b0 c0 l_) (r : Int) (hg : r21_lexError n l_ = some r) :
    CA Tryz.prog 84 [sl b0 l_ c0] w0 (fun v w => v = .int .i64 (r)) := by
 unfold r21_lexError at hg
 refine enter M noB func84 q q hM ?_
 intro a s
 refine S s<|esw 101 u0<|vw<|aw q<|nw<|sw<|vw<|aw q<|nw<|bw fun a s => ?_
 refine c_loop (σ := Nat) (fun m1 a w => ∃ (a0 : Nat), r21_lexError_L0 n l_ m1 a0 = some r ∧ St (cx f84 M w0) [(0, sl b0 l_ c0), (3, vI (((a0 : Nat) : Int)))] [] [(101, sF RLexDecl b0 c0 l_)] a w) (fun m1 => m1) n ⟨(0), hg, (s.sb q q q)⟩ ?_
 clear s a; rintro m1 a w ⟨a0, hg, s⟩
 rcases m1 with _ | m1
 ·rw [r21_lexError_L0] at hg; cases hg
 rw [r21_lexError_L0] at hg
 refine S s<|sw<|vw<|mw q<|mw q<|yw q (lS · q u35)<|yw q (y_lssN (i := a0) (j := ((l_).length)) · q q)<|nw fun a s => c_dec s q (fun h0 => ?_) (fun h0 => ?_)
 ·replace hg := br_t hg h0
  have d1 := SlR.mx (s.ft 101 q)
  obtain ⟨x5, d0, hg⟩ := zB hg
  obtain ⟨r7, G0, hg⟩ := zB hg
  refine S s<|kw<|pw<|sw<|bw<|sw<|lw<|mw q<|mw q fun a s => ?_
  obtain ⟨j1, n0, q0, s0, b1, l0, j0⟩ := SlR.elemX (s.ft 101 q) d0
  refine S s<|yw q (eL 8 a0 · u35 n0 (lt_of_get d0) q)<|yw q (pF 0 · u94 q) fun a s => ?_
  obtain ⟨J0, S0, K0, T0, L0, U0, M0, V0, rfl, v0, e1, g1, x0, y0, z0⟩ := RLexDecl.open l0
  refine S s<|nsw 106 v0<|nsw 107 x0<|nsw 108 y0<|nsw 109 z0<|yw q (lD [_, _] 0 · q0 s0 j0 u92 q) fun a s => ?_
  refine lV s q func115 (c_r21_affixError n _ _ s.lt _ _ _ (s.ft 106 q) _ G0) fun a w hK s => ?_
  refine S s<|aw q<|nw<|sw<|vw<|mw q<|yw q (y_eql · q q)<|nw fun a s => ?_
  obtain ⟨H0, hg, p0⟩ := zJ hg
  refine c_post (fun a w => ∃ (e0 : Int), H0 e0 = some r ∧ St (cx f84 M w0) [(0, sl b0 l_ c0), (3, vI (((a0 : Nat) : Int))), (4, vI e0)] [] [(101, sF RLexDecl b0 c0 l_)] a w) ?_ ?_
  ·refine c_dec s q (fun g0 => ?_) (fun g0 => ?_)
   ·replace hg := br_t hg g0
    obtain ⟨I0, F0, hg⟩ := zB hg
    refine S s<|lw<|mw q<|mw q fun a s => ?_
    obtain ⟨k1, o0, r0, t0, c1, m0, k0⟩ := SlR.elemX (s.ft 101 q) d0
    refine S s<|yw q (eL 8 a0 · u35 o0 (lt_of_get d0) q)<|yw q (pF 2 · u94 q) fun a s => ?_
    obtain ⟨O0, X0, P0, Y0, Q0, Z0, R0, a1, rfl, B0, h1, i1, C0, D0, E0⟩ := RLexDecl.open m0
    refine S s<|nsw 114 B0<|nsw 115 C0<|nsw 116 D0<|nsw 117 E0<|yw q (lD [_, _, _, _, _, _] 2 · r0 t0 k0 u62 q) fun a s => ?_
    refine lV s q func113 (c_r21_defError n _ _ s.lt _ _ _ _ _ _ _ (by omega) (by omega) (s.ft 115 q) (s.ft 116 q) (s.ft 117 q) _ F0) fun a w hK s => ?_
    refine S s<|aw q<|nw fun a s => ?_
    exact ⟨(I0), hg, (s.sb q q q)⟩
   replace hg := br_f hg g0
   apply wp_skip
   apply pN
   exact ⟨(r7), hg, (s.sb q q q)⟩
  clear s a; rintro a w ⟨e0, hg, s⟩
  subst p0
  refine S s<|vw<|mw q<|yw q (y_neq · q q)<|nw fun a s => c_dec s q (fun i0 => ?_) (fun i0 => ?_)
  ·replace hg := br_t hg i0
   refine S s<|vw<|mw q<|aw q<|nw fun a s => ?_
   apply wp_ret
   refine p_inR ?_
   refine p_thenR ?_
   refine p_thenR ?_
   refine p_inR ?_
   refine p_thenR ?_
   obtain rfl := si hg
   exact fT f84 s q q q
  replace hg := br_f hg i0
  apply wp_skip
  refine p_inN ?_
  refine S s<|pw<|lw<|mw q<|yw q (y_addN (i := a0) (j := 1) · q q (in64.2 (by omega)))<|aw q<|nw fun a s => ?_
  exact ⟨m1, Nat.lt_succ_self _, ⟨(a0 + 1), hg, (s.sb q q q)⟩⟩
 replace hg := br_f hg h0
 apply wp_exit
 refine p_then ?_
 refine p_then ?_
 refine p_in ?_
 refine S s<|pw<|vw<|aw q<|nw fun a s => ?_
 apply wp_ret
 obtain rfl := si hg
 exact fT f84 s q q q
theorem c_r21_checksError (n : Nat) (M : Bs) (w0 : World) (hM : bM M w0) (l_ : (List (List (List UInt8)))) (c0 : OA) (d0 : Nat) (D0 : sR (Rep.list Rep.str) M w0 c0 d0 l_) (r : Int) (hg : r21_checksError n l_ = some r) :
    CA Tryz.prog 85 [sl c0 l_ d0] w0 (fun v w => v = .int .i64 (r)) := by
 unfold r21_checksError at hg
 refine enter M noB func85 q q hM ?_
 intro a s
 refine S s<|esw 101 D0<|vw<|aw q<|nw<|sw<|vw<|aw q<|nw<|bw fun a s => ?_
 refine c_loop (σ := Nat) (fun m1 a w => ∃ (a0 : Nat), r21_checksError_L0 n l_ m1 a0 = some r ∧ St (cx f85 M w0) [(0, sl c0 l_ d0), (3, vI (((a0 : Nat) : Int)))] [] [(101, sF (Rep.list Rep.str) c0 d0 l_)] a w) (fun m1 => m1) n ⟨(0), hg, (s.sb q q q)⟩ ?_
 clear s a; rintro m1 a w ⟨a0, hg, s⟩
 rcases m1 with _ | m1
 ·rw [r21_checksError_L0] at hg; cases hg
 rw [r21_checksError_L0] at hg
 refine S s<|sw<|vw<|mw q<|mw q<|yw q (lS · q u36)<|yw q (y_lssN (i := a0) (j := ((l_).length)) · q q)<|nw fun a s => c_dec s q (fun g0 => ?_) (fun g0 => ?_)
 ·replace hg := br_t hg g0
  have Q0 := SlR.mx (s.ft 101 q)
  obtain ⟨x5, b0, hg⟩ := zB hg
  refine S s<|kw<|pw<|sw<|bw<|sw<|sw<|lw<|mw q<|mw q fun a s => ?_
  obtain ⟨p7, u0, y0, C0, O0, r0, o0⟩ := SlR.elemX (s.ft 101 q) b0
  refine qq s q (eL 1 a0 s u36 u0 (lt_of_get b0) q) fun a s => ?_
  obtain ⟨H0, T0, K0, rfl, l0⟩ := r0
  obtain rfl := l0.len
  refine S s<|nsw 103 l0<|yw q (lP · y0 C0 (o0 0 _ q) u25 q)<|yw q (lS · q u25)<|yw q (y_eqlN (i := ((x5).length)) (j := 0) · q q)<|nw fun a s => c_dec s q (fun i0 => ?_) (fun i0 => ?_)
  ·replace hg := br_t hg i0
   refine S s<|vw<|aw q<|nw fun a s => ?_
   apply wp_ret
   refine p_thenR ?_
   refine p_inR ?_
   refine p_thenR ?_
   refine p_thenR ?_
   refine p_inR ?_
   refine p_thenR ?_
   obtain rfl := si hg
   exact fT f85 s q q q
  replace hg := br_f hg i0
  refine S s<|kw<|pw<|sw<|vw<|mw q<|mw q fun a s => ?_
  obtain ⟨U0, s0, v0, z0, L0, p0, m0⟩ := SlR.elemX (s.ft 101 q) b0
  refine qq s q (eL 1 a0 s u36 s0 (lt_of_get b0) q) fun a s => ?_
  obtain ⟨F0, R0, I0, rfl, j0⟩ := p0
  obtain rfl := j0.len
  refine S s<|nsw 105 j0<|yw q (lP · v0 z0 (m0 0 _ q) u25 q)<|yw q (lS · q u25)<|yw q (y_gtrN (i := ((x5).length)) (j := 64) · q q)<|nw fun a s => c_dec s q (fun e0 => ?_) (fun e0 => ?_)
  ·replace hg := br_t hg e0
   have P0 := SlR.mx (s.ft 105 q)
   refine S s<|vw<|aw q<|nw fun a s => ?_
   apply wp_ret
   refine p_thenR ?_
   refine p_inR ?_
   refine p_thenR ?_
   refine p_thenR ?_
   refine p_inR ?_
   refine p_thenR ?_
   obtain rfl := si hg
   exact fT f85 s q q q
  replace hg := br_f hg e0
  obtain ⟨X0, E0, hg⟩ := zB hg
  refine S s<|kw<|pw<|sw<|lw<|mw q<|mw q fun a s => ?_
  obtain ⟨V0, t0, x0, B0, M0, q0, n0⟩ := SlR.elemX (s.ft 101 q) b0
  refine qq s q (eL 1 a0 s u36 t0 (lt_of_get b0) q) fun a s => ?_
  obtain ⟨G0, S0, J0, rfl, k0⟩ := q0
  obtain rfl := k0.len
  refine S s<|nsw 107 k0<|yw q (lP · x0 B0 (n0 0 _ q) u25 q) fun a s => ?_
  refine lV s q func79 (c_r21_allNames n _ _ s.lt _ _ _ (s.ft 107 q) _ _ E0) fun a w hK s => ?_
  refine S s<|yw q (y_not · q)<|nw fun a s => c_cond s q (fun h0 => ?_) (fun h0 => ?_)
  ·replace hg := br_t hg h0
   refine S s<|vw<|aw q<|nw fun a s => ?_
   apply wp_ret
   refine p_inR ?_
   refine p_thenR ?_
   refine p_thenR ?_
   refine p_inR ?_
   refine p_thenR ?_
   obtain rfl := si hg
   exact fT f85 s q q q
  replace hg := br_n hg h0
  apply wp_skip
  refine p_inN ?_
  refine S s<|pw<|lw<|mw q<|yw q (y_addN (i := a0) (j := 1) · q q (in64.2 (by omega)))<|aw q<|nw fun a s => ?_
  exact ⟨m1, Nat.lt_succ_self _, ⟨(a0 + 1), hg, (s.sb q q q)⟩⟩
 replace hg := br_f hg g0
 apply wp_exit
 refine p_then ?_
 refine p_then ?_
 refine p_in ?_
 refine S s<|pw<|vw<|aw q<|nw fun a s => ?_
 apply wp_ret
 obtain rfl := si hg
 exact fT f85 s q q q
theorem c_r21_moduleError (n : Nat) (M : Bs) (w0 : World) (hM : bM M w0) (m_ : Module) (c0 : OA) (m0 : Nat) (d0 : OA) (n0 : Nat) (e0 : OA) (o0 : Nat) (g0 : OA) (p0 : Nat) (h0 : OA) (q0 : Nat) (i0 : OA) (r0 : Nat) (j0 : OA) (s0 : Nat) (k0 : OA) (t0 : Nat) (b0 : OA) (l0 : Nat) (o1 : (m_.Name).length ≤ 9223372036854775807) (P0 : sR Rep.str M w0 c0 m0 m_.Imports) (Q0 : sR RTypeDecl M w0 d0 n0 m_.Types) (R0 : sR RDef M w0 e0 o0 m_.Templates) (S0 : sR REntryDecl M w0 g0 p0 m_.Entries) (T0 : sR RLexDecl M w0 h0 q0 m_.LexRules) (U0 : sR RDef M w0 i0 r0 m_.Rules) (V0 : sR RDef M w0 j0 s0 m_.Roots) (X0 : sR (Rep.list Rep.str) M w0 k0 t0 m_.Checks) (O0 : sR Rep.str M w0 b0 l0 m_.Drops) (r : Int) (hg : r21_moduleError n m_ = some r) :
    CA Tryz.prog 53 [.agg #[vT m_.Name, sl c0 m_.Imports m0, sl d0 m_.Types n0, sl e0 m_.Templates o0, sl g0 m_.Entries p0, sl h0 m_.LexRules q0, sl i0 m_.Rules r0, sl j0 m_.Roots s0, sl k0 m_.Checks t0, sl b0 m_.Drops l0]] w0 (fun v w => v = .int .i64 (r)) := by
 unfold r21_moduleError at hg
 refine enter M noB func53 q q hM ?_
 intro a s
 refine S s<|esw 101 P0<|esw 102 Q0<|esw 103 R0<|esw 104 S0<|esw 105 T0<|esw 106 U0<|esw 107 V0<|esw 108 X0<|esw 109 O0<|vw fun a s => ?_
 refine l_seq q (l_box (zs := [vT m_.Name, sl c0 m_.Imports m0, sl d0 m_.Types n0, sl e0 m_.Templates o0, sl g0 m_.Entries p0, sl h0 m_.LexRules q0, sl i0 m_.Rules r0, sl j0 m_.Roots s0, sl k0 m_.Checks t0, sl b0 m_.Drops l0]) s 1000 q q q q fun b2 a w hb hK s => ?_)
 obtain ⟨r3, c1, hg⟩ := zB hg
 refine S s<|aw q<|nw<|sw<|sw<|lw<|yw q (bF 0 · u38 q)<|yw q (lB 1000 · u9 q) fun a s => ?_
 refine lV s q func77 (c_r01_Name n _ _ s.lt _ (by omega) _ c1) fun a w hK s => ?_
 refine S s<|yw q (y_not · q)<|nw fun a s => c_cond s q (fun y0 => ?_) (fun y0 => ?_)
 ·replace hg := br_t hg y0
  refine S s<|vw<|aw q<|nw fun a s => ?_
  apply wp_ret
  refine p_thenR ?_
  obtain rfl := si hg
  exact fT f53 s q q q
 replace hg := br_n hg y0
 obtain ⟨r9, k1, hg⟩ := zB hg
 refine S s<|kw<|pw<|sw<|sw<|lw<|yw q (y_loadAll (kk := 1000) · q q u38 q q) fun a s => ?_
 refine lV s q func78 (c_r21_long n _ _ s.lt _ _ _ _ _ _ _ _ _ _ _ _ _ _ _ _ _ _ _ (by omega) (s.ft 101 q) (s.ft 102 q) (s.ft 103 q) (s.ft 104 q) (s.ft 105 q) (s.ft 106 q) (s.ft 107 q) (s.ft 108 q) (s.ft 109 q) _ k1) fun a w hK s => ?_
 apply wN
 refine c_cond s q (fun u0 => ?_) (fun u0 => ?_)
 ·replace hg := br_t hg u0
  refine S s<|vw<|aw q<|nw fun a s => ?_
  apply wp_ret
  refine p_thenR ?_
  obtain rfl := si hg
  exact fT f53 s q q q
 replace hg := br_n hg u0
 obtain ⟨p1, Y0, hg⟩ := zB hg
 refine S s<|kw<|pw<|sw<|sw<|lw<|yw q (bF 1 · u38 q)<|yw q (lB 1000 · u25 q) fun a s => ?_
 refine lV s q func79 (c_r21_allNames n _ _ s.lt _ _ _ (s.ft 101 q) _ _ Y0) fun a w hK s => ?_
 refine S s<|yw q (y_not · q)<|nw fun a s => c_cond s q (fun v0 => ?_) (fun v0 => ?_)
 ·replace hg := br_t hg v0
  refine S s<|vw<|aw q<|nw fun a s => ?_
  apply wp_ret
  refine p_thenR ?_
  obtain rfl := si hg
  exact fT f53 s q q q
 replace hg := br_n hg v0
 obtain ⟨B0, Z0, hg⟩ := zB hg
 obtain ⟨C0, a1, hg⟩ := zB hg
 obtain ⟨D0, b1, hg⟩ := zB hg
 obtain ⟨E0, d1, hg⟩ := zB hg
 obtain ⟨F0, e1, hg⟩ := zB hg
 obtain ⟨G0, g1, hg⟩ := zB hg
 obtain ⟨H0, h1, hg⟩ := zB hg
 obtain ⟨K0, i1, hg⟩ := zB hg
 apply wp_skip
 apply pN
 apply wQ
 refine d_plan s [] [(0, some 0), (1, some 1000), (3, some 0), (4, some 1000), (6, some 0), (7, some 1000), (9, some 0), (10, some 1000), (12, some 0), (13, some 1000), (15, some 0), (16, some 1000), (18, some 0), (19, some 1000), (2, none), (5, none), (8, none), (11, none), (14, none), (17, none), (20, none), (21, none), (22, none), (23, none)] q (by kernel_rfl) (by kernel_rfl) q ?_; clear s; intro wr hZ s; have hR := s.wd
 refine S s<|qw hR q (bF 2 · u38 q)<|qw hR q (lB 1000 · u32 q)<|qw hR q (bF 3 · u38 q)<|qw hR q (lB 1000 · u33 q)<|qw hR q (bF 4 · u38 q)<|qw hR q (lB 1000 · u34 q)<|qw hR q (bF 5 · u38 q)<|qw hR q (lB 1000 · u35 q)<|qw hR q (bF 6 · u38 q)<|qw hR q (lB 1000 · u33 q)<|qw hR q (bF 7 · u38 q)<|qw hR q (lB 1000 · u33 q)<|qw hR q (bF 8 · u38 q)<|qw hR q (lB 1000 · u36 q) fun a s => ?_
 refine l_take s q q (l_call (cap := []) s q func81 q (by kernel_rfl) q q (c_r21_typesError n _ _ s.lt _ _ _ (s.ft 102 q) _ Z0) fun q1 a w hK hp s => ?_)
 refine gz hZ hK fun hZ => ?_; clear hK
 obtain rfl := hp
 refine l_take s q q (l_call (cap := []) s q func82 q (by kernel_rfl) q q (c_r21_defsError n _ _ s.lt _ _ _ (s.ft 103 q) _ a1) fun r1 a w hK hp s => ?_)
 refine gz hZ hK fun hZ => ?_; clear hK
 obtain rfl := hp
 refine l_take s q q (l_call (cap := []) s q func83 q (by kernel_rfl) q q (c_r21_entriesError n _ _ s.lt _ _ _ (s.ft 104 q) _ b1) fun s1 a w hK hp s => ?_)
 refine gz hZ hK fun hZ => ?_; clear hK
 obtain rfl := hp
 refine l_take s q q (l_call (cap := []) s q func84 q (by kernel_rfl) q q (c_r21_lexError n _ _ s.lt _ _ _ (s.ft 105 q) _ d1) fun t1 a w hK hp s => ?_)
 refine gz hZ hK fun hZ => ?_; clear hK
 obtain rfl := hp
 refine l_take s q q (l_call (cap := []) s q func82 q (by kernel_rfl) q q (c_r21_defsError n _ _ s.lt _ _ _ (s.ft 106 q) _ e1) fun u1 a w hK hp s => ?_)
 refine gz hZ hK fun hZ => ?_; clear hK
 obtain rfl := hp
 refine l_take s q q (l_call (cap := []) s q func82 q (by kernel_rfl) q q (c_r21_defsError n _ _ s.lt _ _ _ (s.ft 107 q) _ g1) fun v1 a w hK hp s => ?_)
 refine gz hZ hK fun hZ => ?_; clear hK
 obtain rfl := hp
 refine l_take s q q (l_call (cap := []) s q func85 q (by kernel_rfl) q q (c_r21_checksError n _ _ s.lt _ _ _ (s.ft 108 q) _ h1) fun w1 a w hK hp s => ?_)
 refine gz hZ hK fun hZ => ?_; clear hK
 obtain rfl := hp
 refine l_take s q q (l_buildDense (sz := 1) s 1721 q q q u113 q q q q q q q fun L0 a w J0 hK s => ?_)
 have n1 := NewA.lit hZ J0
 clear J0
 refine gz hZ hK fun hZ => ?_; clear hK
 replace s := s.add 112 (rdF (Rep.num .i64) (cellsOfL [vI B0, vI C0, vI D0, vI E0, vI F0, vI G0, vI H0]) ([B0, C0, D0, E0, F0, G0, H0])) (RdAll.cons (by exact q) (RdAll.cons (by exact q) (RdAll.cons (by exact q) (RdAll.cons (by exact q) (RdAll.cons (by exact q) (RdAll.cons (by exact q) (RdAll.cons (by exact q) (rN))))))))
 have hT := s
 replace hT := hT.fz (R := (Rep.num .i64)) (kk := 1721) [1000] 113 q q (hT.ft 112 q) q
 refine l_take s q q (l_call (cap := []) s q func80 q (by kernel_rfl) q q (c_r21_first n _ _ hT.lt [B0, C0, D0, E0, F0, G0, H0] (some ⟨L0, 0, none⟩) (7) (hT.ft 113 q) _ i1) fun x1 a w hK hp s => ?_)
 refine gz hZ hK fun hZ => ?_; clear hK
 obtain rfl := hp
 refine S s<|tw q (y_assign · q) fun a s => ?_
 clear hR hZ
 apply pN
 apply wQ
 apply wQ
 obtain ⟨l1, hg, M0⟩ := zJ hg
 refine c_post (fun a w => ∃ (I0 : Bool), l1 I0 = some r ∧ St (cx f53 M w0) [(3, vI K0), (44, .bool (I0))] [] [] a w) ?_ ?_
 ·rcases Decidable.em (K0 = 0) with a0 | a0
  ·have z0 := decide_eq_true a0
   replace hg := br_t hg a0
   obtain ⟨m1, j1, hg⟩ := zB hg
   refine S s<|lw<|mw q<|yw q (fun s => yl_b (y_eql s q q) z0)<|mw q<|zw q (bF 9 · u38 q)<|zw q (lB 1000 · u25 q) fun a s => ?_
   refine gV s q func79 (c_r21_allNames n _ _ s.lt _ _ _ (s.ft 109 q) _ _ j1) fun a w hK s => ?_
   refine S s<|zw q (y_not · q)<|tw_ q<|nw fun a s => ?_
   exact ⟨(!(m1)), hg, (s.sb q q q)⟩
  have z0 := decide_eq_false a0
  replace hg := br_f hg a0
  refine S s<|lw<|mw q<|yw q (fun s => yl_b (y_eql s q q) z0)<|mw q<|gw q<|gw q<|gw q<|gw q<|fw q<|nw fun a s => ?_
  exact ⟨(false), hg, (s.sb q q q)⟩
 clear s a; rintro a w ⟨I0, hg, s⟩
 subst M0
 refine c_cond s q (fun x0 => ?_) (fun x0 => ?_)
 ·replace hg := br_t hg x0
  refine S s<|lw<|aw q<|nw<|vw<|mw q<|aw q<|nw fun a s => ?_
  apply wp_ret
  obtain rfl := si hg
  exact fT f53 s q q q
 replace hg := br_n hg x0
 refine S s<|kw<|pw<|vw<|mw q<|aw q<|nw fun a s => ?_
 apply wp_ret
 obtain rfl := si hg
 exact fT f53 s q q q
theorem c_r21_joined (n : Nat) (M : Bs) (w0 : World) (hM : bM M w0) (l_ : (List (List UInt8))) (b0 : OA) (c0 : Nat) (r0 : sR Rep.str M w0 b0 c0 l_) (between_ : (List UInt8)) (v0 : (between_).length ≤ 9223372036854775807) (r : (List UInt8)) (hg : r21_joined n l_ between_ = some r) :
    CA Tryz.prog 88 [sl b0 l_ c0, vT between_] w0 (fun v w => v = vT r ∧ ((r).length ≤ 9223372036854775807)) := by
 unfold r21_joined at hg
 refine enter M noB func88 q q hM ?_
 intro a s
 refine S s<|esw 101 r0<|vw<|aw q<|nw<|vw<|aw q<|nw<|sw<|vw<|aw q<|nw<|bw fun a s => ?_
 refine c_loop (σ := Nat) (fun m1 a w => ∃ (d0 : (List UInt8)) (a0 : Nat), r21_joined_L0 n l_ between_ m1 d0 a0 = some r ∧ ((d0).length ≤ 9223372036854775807) ∧ St (cx f88 M w0) [(0, sl b0 l_ c0), (1, vT between_), (5, vT d0), (6, vI (((a0 : Nat) : Int)))] [] [(101, sF Rep.str b0 c0 l_)] a w) (fun m1 => m1) n ⟨([]), (0), hg, lz, (s.sb q q q)⟩ ?_
 clear s a; rintro m1 a w ⟨d0, a0, hg, y0, s⟩
 rcases m1 with _ | m1
 ·rw [r21_joined_L0] at hg; cases hg
 rw [r21_joined_L0] at hg
 refine S s<|sw<|vw<|mw q<|mw q<|yw q (lS · q u25)<|yw q (y_lssN (i := a0) (j := ((l_).length)) · q q)<|nw fun a s => c_dec s q (fun g0 => ?_) (fun g0 => ?_)
 ·replace hg := br_t hg g0
  have u0 := SlR.mx (s.ft 101 q)
  refine S s<|kw<|pw<|sw<|bw<|sw<|vw<|mw q<|yw q (y_gtrN (i := a0) (j := 0) · q q)<|nw fun a s => ?_
  obtain ⟨k5, hg, n0⟩ := zJ hg
  refine c_post (fun a w => ∃ (e0 : (List UInt8)), k5 e0 = some r ∧ ((e0).length ≤ 9223372036854775807) ∧ St (cx f88 M w0) [(0, sl b0 l_ c0), (1, vT between_), (5, vT e0), (6, vI (((a0 : Nat) : Int)))] [] [(101, sF Rep.str b0 c0 l_)] a w) ?_ ?_
  ·refine c_dec s q (fun h0 => ?_) (fun h0 => ?_)
   ·replace hg := br_t hg h0
    obtain ⟨o0, hg⟩ := zC hg
    refine S s<|lw<|mw q<|mw q<|yw q (y_concat · q q o0)<|aw q<|nw fun a s => ?_
    exact ⟨(d0 ++ between_), hg, (by rw [List.length_append]; omega), (s.sb q q q)⟩
   replace hg := br_f hg h0
   apply wp_skip
   apply pN
   exact ⟨(d0), hg, (by omega), (s.sb q q q)⟩
  clear s a; rintro a w ⟨e0, hg, z0, s⟩
  subst n0
  obtain ⟨s0, i0, hg⟩ := zB hg
  obtain ⟨m0, hg⟩ := zC hg
  refine S s<|lw<|mw q<|mw q<|mw q fun a s => ?_
  obtain ⟨B0, l0, p0, q0, t0, k0, j0⟩ := SlR.elemX (s.ft 101 q) i0
  refine qq s q (eL 1 a0 s u25 l0 (lt_of_get i0) q) fun a s => ?_
  obtain ⟨rfl, x0⟩ := k0
  refine S s<|yw q (lP · p0 q0 (j0 0 _ q) u9 q)<|yw q (y_concat · q q m0)<|aw q fun a s => ?_
  apply wO
  refine p_inN ?_
  refine S s<|pw<|lw<|mw q<|yw q (y_addN (i := a0) (j := 1) · q q (in64.2 (by omega)))<|aw q<|nw fun a s => ?_
  exact ⟨m1, Nat.lt_succ_self _, ⟨(e0 ++ s0), (a0 + 1), hg, (by rw [List.length_append]; omega), (s.sb q q q)⟩⟩
 replace hg := br_f hg g0
 apply wp_exit
 refine p_then ?_
 refine p_then ?_
 refine p_in ?_
 refine S s<|pw<|vw<|mw q<|aw q<|nw fun a s => ?_
 apply wp_ret
 obtain rfl := si hg
 refine fin1 (fn := Tryz.f88) s q (r_tmp s q) ?_
 exact ⟨q, (by omega)⟩
theorem c_r21_typed (n : Nat) (M : Bs) (w0 : World) (hM : bM M w0) (x_ : TypeDecl) (b0 : OA) (d0 : Nat) (c0 : OA) (e0 : Nat) (U0 : (x_.Name).length ≤ 9223372036854775807) (L0 : sR Rep.str M w0 b0 d0 x_.Supers) (M0 : sR RFeatDecl M w0 c0 e0 x_.Feats) (r : (List UInt8)) (hg : r21_typed n x_ = some r) :
    CA Tryz.prog 86 [.agg #[vT x_.Name, sl b0 x_.Supers d0, sl c0 x_.Feats e0]] w0 (fun v w => v = vT r ∧ ((r).length ≤ 9223372036854775807)) := by
 unfold r21_typed at hg
 refine enter M noB func86 q q hM ?_
 intro a s
 let F : Al Fact := [(101, sF Rep.str b0 d0 x_.Supers), (102, sF RFeatDecl c0 e0 x_.Feats)]
 refine S s<|esw 101 L0<|esw 102 M0<|vw fun a s => ?_
 refine l_seq q (l_box (zs := [vT x_.Name, sl b0 x_.Supers d0, sl c0 x_.Feats e0]) s 1000 q q q q fun b2 a w hb hK s => ?_)
 obtain ⟨C0, hg⟩ := zC hg
 refine S s<|aw q<|nw<|sw<|lw<|yw q (bF 0 · u49 q)<|yw q (lB 1000 · u9 q)<|yw q (y_concat · q q C0)<|aw q<|nw<|sw<|vw<|yw q (bF 1 · u49 q)<|yw q (lB 1000 · u25 q)<|yw q (lS · q u25)<|yw q (y_gtrN (i := ((x_.Supers).length)) (j := 0) · q q)<|nw fun a s => ?_
 obtain ⟨k4, hg, F0⟩ := zJ hg
 refine c_post (fun a w => ∃ (i0 : (List UInt8)), k4 i0 = some r ∧ ((i0).length ≤ 9223372036854775807) ∧ St (cx f86 M w0) [(1, vP b2 0), (3, vT i0)] [(1000, Ob.box b2 [vT x_.Name, sl b0 x_.Supers d0, sl c0 x_.Feats e0] 49)] F a w) ?_ ?_
 ·refine c_dec s q (fun m0 => ?_) (fun m0 => ?_)
  ·replace hg := br_t hg m0
   have T0 := SlR.mx (s.ft 101 q)
   obtain ⟨G0, hg⟩ := zC hg
   obtain ⟨r9, O0, hg⟩ := zB hg
   obtain ⟨u0, hg⟩ := zC hg
   refine S s<|lw<|mw q<|yw q (y_concat · q q G0)<|yw q (bF 1 · u49 q)<|yw q (lB 1000 · u25 q) fun a s => ?_
   refine lC s q func88 (c_r21_joined n _ _ s.lt _ _ _ (s.ft 101 q) _ lz _ O0) fun h1 a w hK hp s => ?_
   obtain ⟨rfl, d1⟩ := hp
   refine S s<|yw q (y_concat · q q u0)<|aw q<|nw fun a s => ?_
   exact ⟨((([116, 121, 112, 101, 32] ++ x_.Name) ++ [32, 60, 32]) ++ r9), hg, (by rw [List.length_append]; omega), (s.sb q q q)⟩
  replace hg := br_f hg m0
  apply wp_skip
  apply pN
  exact ⟨([116, 121, 112, 101, 32] ++ x_.Name), hg, (by rw [List.length_append]; omega), (s.sb q q q)⟩
 clear s a; rintro a w ⟨i0, hg, c1, s⟩
 subst F0
 refine S s<|sw<|vw<|aw q<|nw<|bw fun a s => ?_
 refine c_loop (σ := Nat) (fun m1 a w => ∃ (g0 : (List UInt8)) (a0 : Nat), r21_typed_L0 n x_ m1 g0 a0 = some r ∧ ((g0).length ≤ 9223372036854775807) ∧ St (cx f86 M w0) [(1, vP b2 0), (3, vT g0), (4, vI (((a0 : Nat) : Int)))] [(1000, Ob.box b2 [vT x_.Name, sl b0 x_.Supers d0, sl c0 x_.Feats e0] 49)] F a w) (fun m1 => m1) n ⟨(i0), (0), hg, (by omega), (s.sb q q q)⟩ ?_
 clear s a; rintro m1 a w ⟨g0, a0, hg, a1, s⟩
 rcases m1 with _ | m1
 ·rw [r21_typed_L0] at hg; cases hg
 rw [r21_typed_L0] at hg
 refine S s<|sw<|vw<|mw q<|yw q (bF 2 · u49 q)<|yw q (lB 1000 · u47 q)<|yw q (lS · q u47)<|yw q (y_lssN (i := a0) (j := ((x_.Feats).length)) · q q)<|nw fun a s => c_dec s q (fun k0 => ?_) (fun k0 => ?_)
 ·replace hg := br_t hg k0
  have S0 := SlR.mx (s.ft 102 q)
  refine S s<|kw<|pw<|sw<|bw<|sw<|vw<|mw q<|yw q (y_eqlN (i := a0) (j := 0) · q q)<|nw fun a s => ?_
  obtain ⟨P0, hg, v0⟩ := zJ hg
  refine c_post (fun a w => ∃ (h0 : (List UInt8)), P0 h0 = some r ∧ ((h0).length ≤ 9223372036854775807) ∧ St (cx f86 M w0) [(1, vP b2 0), (3, vT h0), (4, vI (((a0 : Nat) : Int)))] [(1000, Ob.box b2 [vT x_.Name, sl b0 x_.Supers d0, sl c0 x_.Feats e0] 49)] F a w) ?_ ?_
  ·refine c_dec s q (fun l0 => ?_) (fun l0 => ?_)
   ·replace hg := br_t hg l0
    obtain ⟨x0, hg⟩ := zC hg
    refine S s<|lw<|mw q<|yw q (y_concat · q q x0)<|aw q<|nw fun a s => ?_
    exact ⟨(g0 ++ [32, 58, 32]), hg, (by rw [List.length_append]; omega), (s.sb q q q)⟩
   replace hg := br_f hg l0
   obtain ⟨y0, hg⟩ := zC hg
   refine S s<|lw<|mw q<|yw q (y_concat · q q y0)<|aw q<|nw fun a s => ?_
   exact ⟨(g0 ++ [44, 32]), hg, (by rw [List.length_append]; omega), (s.sb q q q)⟩
  clear s a; rintro a w ⟨h0, hg, b1, s⟩
  subst v0
  obtain ⟨n0, j0, hg⟩ := zB hg
  obtain ⟨z0, hg⟩ := zC hg
  obtain ⟨B0, hg⟩ := zC hg
  obtain ⟨D0, hg⟩ := zC hg
  refine d_plan s [] [(0, some 0), (1, some 0), (2, some 1000), (3, some 0), (4, some 0), (5, some 0), (6, some 0), (7, some 0), (8, some 0), (9, some 0), (10, some 1000), (11, some 0), (12, some 0), (13, some 0), (14, some 0), (15, some 0), (16, some 0)] q (by kernel_rfl) (by kernel_rfl) q ?_; clear s; intro wr hZ s; have hR := s.wd
  refine S s<|qw hR q (mo · q)<|qw hR q (bF 2 · u49 q)<|qw hR q (lB 1000 · u47 q)<|qw hR q (mo · q) fun a s => ?_
  obtain ⟨e1, s0, H0, J0, Q0, q0, o0⟩ := SlR.elemX (s.ft 102 q) j0
  refine S s<|qw hR q (eL 2 a0 · u47 s0 (lt_of_get j0) q)<|qw hR q (pF 0 · u82 q) fun a s => ?_
  obtain ⟨rfl, V0, X0⟩ := RFeatDecl.open q0
  refine S s<|qw hR q (lP · H0 J0 (o0 0 _ q) u9 q)<|qw hR q (y_concat · q q z0)<|qw hR q (y_concat · q q B0)<|qw hR q (bF 2 · u49 q)<|qw hR q (lB 1000 · u47 q)<|qw hR q (mo · q) fun a s => ?_
  obtain ⟨g1, t0, I0, K0, R0, r0, p0⟩ := SlR.elemX (s.ft 102 q) j0
  refine S s<|qw hR q (eL 2 a0 · u47 t0 (lt_of_get j0) q)<|qw hR q (pF 1 · u82 q) fun a s => ?_
  obtain ⟨rfl, Y0, Z0⟩ := RFeatDecl.open r0
  refine S s<|qw hR q (lP · I0 K0 (p0 1 _ q) u9 q)<|qw hR q (y_concat · q q D0)<|qw hR q (y_assign · q) fun a s => ?_
  clear hR hZ
  refine p_inN ?_
  refine S s<|pw<|lw<|mw q<|yw q (y_addN (i := a0) (j := 1) · q q (in64.2 (by omega)))<|aw q<|nw fun a s => ?_
  exact ⟨m1, Nat.lt_succ_self _, ⟨(((h0 ++ n0.Feat) ++ [32]) ++ n0.Value), (a0 + 1), hg, (by rw [List.length_append]; omega), (s.sb q q q)⟩⟩
 replace hg := br_f hg k0
 apply wp_exit
 refine p_then ?_
 refine p_then ?_
 refine p_in ?_
 obtain ⟨E0, hg⟩ := zC hg
 refine S s<|pw<|sw<|lw<|mw q<|yw q (y_concat · q q E0)<|aw q<|nw fun a s => ?_
 apply wp_ret
 obtain rfl := si hg
 refine fin1 (fn := Tryz.f86) s q (r_tmp s q) ?_
 exact ⟨q, (by rw [List.length_append]; omega)⟩
theorem c_r19_joined (n : Nat) (via_ : Desc → Option (List UInt8)) (c_via : ∀ (M : Bs) (w0 : World) (hM : bM M w0) (t_ : Desc) (m0 : OA) (o0 : Nat) (n0 : OA) (p0 : Nat) (S0 : (t_.Name).length ≤ 9223372036854775807) (Q0 : sR Rep.str M w0 m0 o0 t_.Path) (R0 : sR RDesc M w0 n0 p0 t_.Kids) (r : (List UInt8)) (hg : via_ t_ = some r), Calls Tryz.prog 132 [.agg #[.int .i64 (t_.Op), .string (bs (t_.Name)), .slice (m0) ((t_.Path).length) (o0), .slice (n0) ((t_.Kids).length) (p0)]].toArray w0 (Ret noB w0 fun v w => v = .string (bs (r)) ∧ ((r).length ≤ 9223372036854775807))) (M : Bs) (w0 : World) (hM : bM M w0) (l_ : (List Desc)) (b0 : OA) (c0 : Nat) (D0 : sR RDesc M w0 b0 c0 l_) (between_ : (List UInt8)) (T0 : (between_).length ≤ 9223372036854775807) (last_ : (List UInt8)) (U0 : (last_).length ≤ 9223372036854775807) (r : (List UInt8)) (hg : r19_joined n via_ l_ between_ last_ = some r) :
    CA Tryz.prog 138 [sl b0 l_ c0, vT between_, vT last_] w0 (fun v w => v = vT r ∧ ((r).length ≤ 9223372036854775807)) := by
 unfold r19_joined at hg
 refine enter M noB func138 q q hM ?_
 intro a s
 refine S s<|esw 101 D0<|vw<|aw q<|nw<|vw<|aw q<|nw<|sw<|vw<|aw q<|nw<|bw fun a s => ?_
 refine c_loop (σ := Nat) (fun m1 a w => ∃ (d0 : (List UInt8)) (a0 : Nat), r19_joined_L0 n l_ between_ last_ via_ m1 d0 a0 = some r ∧ ((d0).length ≤ 9223372036854775807) ∧ St (cx f138 M w0) [(0, sl b0 l_ c0), (1, vT between_), (2, vT last_), (7, vT d0), (8, vI (((a0 : Nat) : Int)))] [] [(101, sF RDesc b0 c0 l_)] a w) (fun m1 => m1) n ⟨([]), (0), hg, lz, (s.sb q q q)⟩ ?_
 clear s a; rintro m1 a w ⟨d0, a0, hg, X0, s⟩
 rcases m1 with _ | m1
 ·rw [r19_joined_L0] at hg; cases hg
 rw [r19_joined_L0] at hg
 refine S s<|sw<|vw<|mw q<|mw q<|yw q (lS · q u58)<|yw q (y_lssN (i := a0) (j := ((l_).length)) · q q)<|nw fun a s => c_dec s q (fun j0 => ?_) (fun j0 => ?_)
 ·replace hg := br_t hg j0
  have P0 := SlR.mx (s.ft 101 q)
  refine S s<|kw<|pw<|sw<|bw<|sw fun a s => ?_
  obtain ⟨k5, hg, y0⟩ := zJ hg
  refine c_post (fun a w => ∃ (g0 : (List UInt8)), k5 g0 = some r ∧ ((g0).length ≤ 9223372036854775807) ∧ St (cx f138 M w0) [(0, sl b0 l_ c0), (1, vT between_), (2, vT last_), (7, vT g0), (8, vI (((a0 : Nat) : Int)))] [] [(101, sF RDesc b0 c0 l_)] a w) ?_ ?_
  ·apply wp_block
   apply wQ
   obtain ⟨k7, hg, z0⟩ := zJ hg
   refine c_post (fun a w => ∃ (l0 : Bool), k7 l0 = some r ∧ St (cx f138 M w0) [(0, sl b0 l_ c0), (1, vT between_), (2, vT last_), (7, vT d0), (8, vI (((a0 : Nat) : Int))), (15, .bool (l0))] [] [(101, sF RDesc b0 c0 l_)] a w) ?_ ?_
   ·rcases Decidable.em ((0 : Nat) < a0) with e0 | e0
    ·have k0 := decide_eq_true e0
     replace hg := br_t hg e0
     refine S s<|lw<|mw q<|yw q (fun s => yl_b (y_gtrN (i := a0) (j := 0) s q q) k0)<|mw q<|hw q<|hw q<|zw q (lS · q u58) fun a s => ?_
     have O0 := SlR.mx (s.ft 101 q)
     refine S s<|zw q (y_sub · q q (in64.2 (by omega)))<|zw q (y_eql · q q)<|tw_ q<|aw q<|nw fun a s => ?_
     exact ⟨(decide (((a0 : Nat) : Int) = ((((l_).length : Nat) : Int) - 1))), hg, (s.sb q q q)⟩
    have k0 := decide_eq_false e0
    replace hg := br_f hg e0
    refine S s<|lw<|mw q<|yw q (fun s => yl_b (y_gtrN (i := a0) (j := 0) s q q) k0)<|mw q<|gw q<|gw q<|gw q<|gw q<|gw q<|fw q<|aw q<|nw fun a s => ?_
    exact ⟨(false), hg, (s.sb q q q)⟩
   clear s a; rintro a w ⟨l0, hg, s⟩
   subst z0
   refine c_cond s q (fun h0 => ?_) (fun h0 => ?_)
   ·replace hg := br_t hg h0
    obtain ⟨u0, hg⟩ := zC hg
    refine S s<|lw<|mw q<|mw q<|yw q (y_concat · q q u0)<|aw q fun a s => ?_
    apply wO
    refine p_inN ?_
    apply pN
    exact ⟨(d0 ++ last_), hg, (by rw [List.length_append]; omega), (s.sb q q q)⟩
   replace hg := br_n hg h0
   refine S s<|vw<|mw q<|yw q (y_gtrN (i := a0) (j := 0) · q q)<|aw q<|nw fun a s => c_dec s q (fun i0 => ?_) (fun i0 => ?_)
   ·replace hg := br_t hg i0
    obtain ⟨v0, hg⟩ := zC hg
    refine S s<|lw<|mw q<|mw q<|yw q (y_concat · q q v0)<|aw q fun a s => ?_
    apply wO
    refine p_inN ?_
    apply pN
    exact ⟨(d0 ++ between_), hg, (by rw [List.length_append]; omega), (s.sb q q q)⟩
   replace hg := br_f hg i0
   apply wp_skip
   refine p_inN ?_
   apply pN
   exact ⟨(d0), hg, (by omega), (s.sb q q q)⟩
  clear s a; rintro a w ⟨g0, hg, Y0, s⟩
  subst y0
  obtain ⟨c1, q0, hg⟩ := zB hg
  obtain ⟨H0, G0, hg⟩ := zB hg
  obtain ⟨x0, hg⟩ := zC hg
  refine S s<|lw<|mw q<|mw q<|mw q fun a s => ?_
  obtain ⟨a1, t0, B0, C0, M0, s0, r0⟩ := SlR.elemX (s.ft 101 q) q0
  refine qq s q (eL 4 a0 s u58 t0 (lt_of_get q0) q) fun a s => ?_
  obtain ⟨I0, K0, J0, L0, rfl, V0, E0, F0⟩ := RDesc.open s0
  refine S s<|nsw 104 E0<|nsw 105 F0<|yw q (y_ldp · q B0 C0 (by simpa using r0) u60 q q) fun a s => ?_
  refine lC s q func132 (c_via _ _ s.lt _ _ _ _ _ (by omega) (s.ft 104 q) (s.ft 105 q) _ G0) fun b1 a w hK hp s => ?_
  obtain ⟨rfl, Z0⟩ := hp
  refine S s<|yw q (y_concat · q q x0)<|aw q fun a s => ?_
  apply wO
  refine p_inN ?_
  refine S s<|pw<|lw<|mw q<|yw q (y_addN (i := a0) (j := 1) · q q (in64.2 (by omega)))<|aw q<|nw fun a s => ?_
  exact ⟨m1, Nat.lt_succ_self _, ⟨(g0 ++ H0), (a0 + 1), hg, (by rw [List.length_append]; omega), (s.sb q q q)⟩⟩
 replace hg := br_f hg j0
 apply wp_exit
 refine p_then ?_
 refine p_then ?_
 refine p_in ?_
 refine S s<|pw<|vw<|mw q<|aw q<|nw fun a s => ?_
 apply wp_ret
 obtain rfl := si hg
 refine fin1 (fn := Tryz.f138) s q (r_tmp s q) ?_
 exact ⟨q, (by omega)⟩
theorem c_r19_written (n : Nat) : ∀ (M : Bs) (w0 : World) (hM : bM M w0) (t_ : Desc) (a0 : OA) (c0 : Nat) (b0 : OA) (d0 : Nat) (o1 : (t_.Name).length ≤ 9223372036854775807) (r0 : sR Rep.str M w0 a0 c0 t_.Path) (s0 : sR RDesc M w0 b0 d0 t_.Kids) (r : (List UInt8)) (hg : r19_written n t_ = some r),
    CA Tryz.prog 132 [.agg #[.int .i64 (t_.Op), vT t_.Name, sl a0 t_.Path c0, sl b0 t_.Kids d0]] w0 (fun v w => v = vT r ∧ ((r).length ≤ 9223372036854775807)) := by
 induction n with
 | zero => intros; rename_i hg; rw [r19_written] at hg; cases hg
 | succ n c_self =>
 intro M w0 hM t_ a0 c0 b0 d0 o1 r0 s0 r hg
 rw [r19_written] at hg
 refine enter M noB func132 q q hM ?_
 intro a s
 let F : Al Fact := [(101, sF Rep.str a0 c0 t_.Path), (102, sF RDesc b0 d0 t_.Kids)]
 refine S s<|esw 101 r0<|esw 102 s0<|vw fun a s => ?_
 refine l_seq q (l_box (zs := [vI t_.Op, vT t_.Name, sl a0 t_.Path c0, sl b0 t_.Kids d0]) s 1000 q q q q fun b2 a w hb hK s => ?_)
 refine S s<|aw q<|nw<|sw<|vw<|yw q (bF 0 · u60 q)<|yw q (lB 1000 · u3 q)<|nw<|bw<|vw<|yw q (y_eql · q q)<|aw q<|nw fun a s => c_dec s q (fun k0 => ?_) (fun k0 => ?_)
 ·replace hg := br_t hg k0
  refine S s<|vw<|yw q (bF 1 · u60 q)<|yw q (lB 1000 · u9 q)<|aw q<|nw fun a s => ?_
  apply wp_ret
  refine p_inR ?_
  refine p_thenR ?_
  obtain rfl := si hg
  refine fin1 (fn := Tryz.f132) s q (r_tmp s q) ?_
  exact ⟨q, (by omega)⟩
 replace hg := br_f hg k0
 refine S s<|vw<|yw q (y_eql · q q)<|aw q<|nw fun a s => c_dec s q (fun l0 => ?_) (fun l0 => ?_)
 ·replace hg := br_t hg l0
  obtain ⟨Q0, hg⟩ := zC hg
  refine S s<|sw<|lw<|yw q (bF 1 · u60 q)<|yw q (lB 1000 · u9 q)<|yw q (y_concat · q q Q0)<|aw q<|nw fun a s => ?_
  apply wp_ret
  refine p_inR ?_
  refine p_thenR ?_
  obtain rfl := si hg
  refine fin1 (fn := Tryz.f132) s q (r_tmp s q) ?_
  exact ⟨q, (by rw [List.length_append]; omega)⟩
 replace hg := br_f hg l0
 refine S s<|vw<|yw q (y_eql · q q)<|aw q<|nw fun a s => c_dec s q (fun o0 => ?_) (fun o0 => ?_)
 ·replace hg := br_t hg o0
  obtain ⟨Y0, hg⟩ := zC hg
  refine S s<|sw<|lw<|yw q (bF 1 · u60 q)<|yw q (lB 1000 · u9 q)<|yw q (y_concat · q q Y0)<|aw q<|nw fun a s => ?_
  apply wp_ret
  refine p_inR ?_
  refine p_thenR ?_
  obtain rfl := si hg
  refine fin1 (fn := Tryz.f132) s q (r_tmp s q) ?_
  exact ⟨q, (by rw [List.length_append]; omega)⟩
 replace hg := br_f hg o0
 refine S s<|vw<|yw q (y_eql · q q)<|aw q<|nw fun a s => c_dec s q (fun q0 => ?_) (fun q0 => ?_)
 ·replace hg := br_t hg q0
  obtain ⟨r9, n1, hg⟩ := zB hg
  refine S s<|sw<|lw<|yw q (bF 3 · u60 q)<|yw q (lB 1000 · u58 q) fun a s => ?_
  refine lC s q func138 (c_r19_joined n (r19_written n) c_self _ _ s.lt _ _ _ (s.ft 102 q) _ lz _ lz _ n1) fun S1 a w hK hp s => ?_
  obtain ⟨rfl, F1⟩ := hp
  refine S s<|aw q<|nw fun a s => ?_
  apply wp_ret
  refine p_inR ?_
  refine p_thenR ?_
  obtain rfl := si hg
  refine fin1 (fn := Tryz.f132) s q (r_tmp s q) ?_
  exact ⟨q, (by omega)⟩
 replace hg := br_f hg q0
 refine S s<|vw<|yw q (y_eql · q q)<|aw q<|nw fun a s => c_dec s q (fun i0 => ?_) (fun i0 => ?_)
 ·replace hg := br_t hg i0
  obtain ⟨p1, t0, hg⟩ := zB hg
  obtain ⟨I0, hg⟩ := zC hg
  refine S s<|sw<|lw<|yw q (bF 2 · u60 q)<|yw q (lB 1000 · u25 q) fun a s => ?_
  obtain ⟨K1, F0, Z0, c1, v1, C0, y0⟩ := SlR.elemX (s.ft 101 q) t0
  refine qq s q (eL 1 0 s u25 F0 (lt_of_get t0) q) fun a s => ?_
  obtain ⟨rfl, z1⟩ := C0
  refine S s<|yw q (lP · Z0 c1 (y0 0 _ q) u9 q)<|yw q (y_concat · q q I0)<|aw q<|nw<|sw<|vw<|aw q<|nw fun a s => ?_
  obtain ⟨x0, hg, J0⟩ := zJ hg
  refine c_post (fun a w => ∃ (h0 : (List UInt8)), x0 h0 = some r ∧ ((h0).length ≤ 9223372036854775807) ∧ St (cx f132 M w0) [(1, vP b2 0), (3, vT h0)] [(1000, Ob.box b2 [vI t_.Op, vT t_.Name, sl a0 t_.Path c0, sl b0 t_.Kids d0] 60)] F a w) ?_ ?_
  ·apply wp_block
   refine c_loop (σ := Nat) (fun m1 a w => ∃ (g0 : (List UInt8)) (e0 : Nat), r19_written_L0 n t_ x0 m1 g0 e0 = some r ∧ ((g0).length ≤ 9223372036854775807) ∧ St (cx f132 M w0) [(1, vP b2 0), (3, vT g0), (4, vI (((e0 : Nat) : Int)))] [(1000, Ob.box b2 [vI t_.Op, vT t_.Name, sl a0 t_.Path c0, sl b0 t_.Kids d0] 60)] F a w) (fun m1 => m1) n ⟨([91] ++ p1), (1), hg, (by rw [List.length_append]; omega), (s.sb q q q)⟩ ?_
   clear s a; rintro m1 a w ⟨g0, e0, hg, E1, s⟩
   rcases m1 with _ | m1
   ·rw [r19_written_L0] at hg; cases hg
   rw [r19_written_L0] at hg
   refine S s<|sw<|vw<|mw q<|yw q (bF 2 · u60 q)<|yw q (lB 1000 · u25 q)<|yw q (lS · q u25)<|yw q (y_lssN (i := e0) (j := ((t_.Path).length)) · q q)<|nw fun a s => c_dec s q (fun j0 => ?_) (fun j0 => ?_)
   ·replace hg := br_t hg j0
    have y1 := SlR.mx (s.ft 101 q)
    obtain ⟨K0, hg⟩ := zC hg
    obtain ⟨q1, u0, hg⟩ := zB hg
    obtain ⟨L0, hg⟩ := zC hg
    refine S s<|kw<|pw<|sw<|bw<|lw<|mw q<|yw q (y_concat · q q K0)<|yw q (bF 2 · u60 q)<|yw q (lB 1000 · u25 q)<|mw q fun a s => ?_
    obtain ⟨L1, G0, a1, d1, w1, D0, z0⟩ := SlR.elemX (s.ft 101 q) u0
    refine qq s q (eL 1 e0 s u25 G0 (lt_of_get u0) q) fun a s => ?_
    obtain ⟨rfl, B1⟩ := D0
    refine S s<|yw q (lP · a1 d1 (z0 0 _ q) u9 q)<|yw q (y_concat · q q L0)<|aw q fun a s => ?_
    apply wO
    refine p_inN ?_
    refine S s<|pw<|lw<|mw q<|yw q (y_addN (i := e0) (j := 1) · q q (in64.2 (by omega)))<|aw q<|nw fun a s => ?_
    exact ⟨m1, Nat.lt_succ_self _, ⟨((g0 ++ [46]) ++ q1), (e0 + 1), hg, (by rw [List.length_append]; omega), (s.sb q q q)⟩⟩
   replace hg := br_f hg j0
   apply wp_exit
   refine p_then ?_
   refine p_then ?_
   refine p_in ?_
   apply pN
   exact ⟨(g0), hg, (by omega), (s.sb q q q)⟩
  clear s a; rintro a w ⟨h0, hg, D1, s⟩
  subst J0
  obtain ⟨M0, hg⟩ := zC hg
  obtain ⟨Y1, v0, hg⟩ := zB hg
  obtain ⟨O1, i1, hg⟩ := zB hg
  obtain ⟨O0, hg⟩ := zC hg
  obtain ⟨P0, hg⟩ := zC hg
  refine S s<|sw<|lw<|mw q<|yw q (y_concat · q q M0)<|yw q (bF 3 · u60 q)<|yw q (lB 1000 · u58 q) fun a s => ?_
  obtain ⟨M1, H0, b1, e1, x1, E0, B0⟩ := SlR.elemX (s.ft 102 q) v0
  refine qq s q (eL 4 0 s u58 H0 (lt_of_get v0) q) fun a s => ?_
  obtain ⟨r1, t1, s1, u1, rfl, C1, g1, h1⟩ := RDesc.open E0
  refine S s<|nsw 105 g1<|nsw 106 h1<|yw q (y_ldp · q b1 e1 (by simpa using B0) u60 q q) fun a s => ?_
  refine lC s q func132 (c_self _ _ s.lt _ _ _ _ _ (by omega) (s.ft 105 q) (s.ft 106 q) _ i1) fun T1 a w hK hp s => ?_
  obtain ⟨rfl, G1⟩ := hp
  refine S s<|yw q (y_concat · q q O0)<|yw q (y_concat · q q P0)<|aw q<|nw fun a s => ?_
  apply wp_ret
  refine p_inR ?_
  refine p_thenR ?_
  obtain rfl := si hg
  refine fin1 (fn := Tryz.f132) s q (r_tmp s q) ?_
  exact ⟨q, (by rw [List.length_append]; omega)⟩
 replace hg := br_f hg i0
 refine S s<|vw<|yw q (y_eql · q q)<|aw q<|nw fun a s => c_dec s q (fun m0 => ?_) (fun m0 => ?_)
 ·replace hg := br_t hg m0
  obtain ⟨P1, j1, hg⟩ := zB hg
  obtain ⟨R0, hg⟩ := zC hg
  obtain ⟨S0, hg⟩ := zC hg
  refine S s<|sw<|lw<|yw q (bF 3 · u60 q)<|yw q (lB 1000 · u58 q) fun a s => ?_
  refine lC s q func138 (c_r19_joined n (r19_written n) c_self _ _ s.lt _ _ _ (s.ft 102 q) _ lz _ lz _ j1) fun U1 a w hK hp s => ?_
  obtain ⟨rfl, H1⟩ := hp
  refine S s<|yw q (y_concat · q q R0)<|yw q (y_concat · q q S0)<|aw q<|nw fun a s => ?_
  apply wp_ret
  refine p_inR ?_
  refine p_thenR ?_
  obtain rfl := si hg
  refine fin1 (fn := Tryz.f132) s q (r_tmp s q) ?_
  exact ⟨q, (by rw [List.length_append]; omega)⟩
 replace hg := br_f hg m0
 refine S s<|vw<|yw q (y_eql · q q)<|aw q<|nw fun a s => c_dec s q (fun n0 => ?_) (fun n0 => ?_)
 ·replace hg := br_t hg n0
  obtain ⟨Q1, k1, hg⟩ := zB hg
  obtain ⟨T0, hg⟩ := zC hg
  obtain ⟨U0, hg⟩ := zC hg
  refine S s<|sw<|lw<|yw q (bF 3 · u60 q)<|yw q (lB 1000 · u58 q) fun a s => ?_
  refine lC s q func138 (c_r19_joined n (r19_written n) c_self _ _ s.lt _ _ _ (s.ft 102 q) _ lz _ lz _ k1) fun V1 a w hK hp s => ?_
  obtain ⟨rfl, I1⟩ := hp
  refine S s<|yw q (y_concat · q q T0)<|yw q (y_concat · q q U0)<|aw q<|nw fun a s => ?_
  apply wp_ret
  refine p_inR ?_
  refine p_thenR ?_
  obtain rfl := si hg
  refine fin1 (fn := Tryz.f132) s q (r_tmp s q) ?_
  exact ⟨q, (by rw [List.length_append]; omega)⟩
 replace hg := br_f hg n0
 apply wp_skip
 refine p_inN ?_
 refine S s<|pw<|sw<|vw<|yw q (bF 3 · u60 q)<|yw q (lB 1000 · u58 q)<|yw q (lS · q u58)<|yw q (y_eqlN (i := ((t_.Kids).length)) (j := 0) · q q)<|nw fun a s => c_dec s q (fun p0 => ?_) (fun p0 => ?_)
 ·replace hg := br_t hg p0
  refine S s<|vw<|aw q<|nw fun a s => ?_
  apply wp_ret
  refine p_thenR ?_
  obtain rfl := si hg
  refine fin1 (fn := Tryz.f132) s q (r_tmp s q) ?_
  exact ⟨q, lz⟩
 replace hg := br_f hg p0
 obtain ⟨R1, l1, hg⟩ := zB hg
 obtain ⟨V0, hg⟩ := zC hg
 obtain ⟨X0, hg⟩ := zC hg
 refine S s<|kw<|pw<|sw<|lw<|yw q (bF 3 · u60 q)<|yw q (lB 1000 · u58 q) fun a s => ?_
 refine lC s q func138 (c_r19_joined n (r19_written n) c_self _ _ s.lt _ _ _ (s.ft 102 q) _ lz _ lz _ l1) fun X1 a w hK hp s => ?_
 obtain ⟨rfl, J1⟩ := hp
 refine S s<|yw q (y_concat · q q V0)<|yw q (y_concat · q q X0)<|aw q<|nw fun a s => ?_
 apply wp_ret
 obtain rfl := si hg
 refine fin1 (fn := Tryz.f132) s q (r_tmp s q) ?_
 exact ⟨q, (by rw [List.length_append]; omega)⟩
theorem c_r19_Print (n : Nat) (M : Bs) (w0 : World) (hM : bM M w0) (d_ : Desc) (a0 : OA) (c0 : Nat) (b0 : OA) (d0 : Nat) (m0 : (d_.Name).length ≤ 9223372036854775807) (h0 : sR Rep.str M w0 a0 c0 d_.Path) (i0 : sR RDesc M w0 b0 d0 d_.Kids) (r : ((List UInt8) × Int)) (hg : r19_Print n d_ = some r) :
    CA Tryz.prog 116 [.agg #[.int .i64 (d_.Op), vT d_.Name, sl a0 d_.Path c0, sl b0 d_.Kids d0]] w0 (fun v w => v = .tuple #[vT r.1, .int .i64 (r.2)] ∧ ((r.1).length ≤ 9223372036854775807)) := by
 unfold r19_Print at hg
 refine enter M noB func116 q q hM ?_
 intro a s
 refine S s<|esw 101 h0<|esw 102 i0<|vw fun a s => ?_
 refine l_seq q (l_box (zs := [vI d_.Op, vT d_.Name, sl a0 d_.Path c0, sl b0 d_.Kids d0]) s 1000 q q q q fun b2 a w hb hK s => ?_)
 obtain ⟨r3, j0, hg⟩ := zB hg
 refine S s<|aw q<|aw q<|nw<|sw<|lw<|yw q (y_loadAll (kk := 1000) · q q u60 q q) fun a s => ?_
 refine lV s q func129 (c_r19_Check n _ _ s.lt _ _ _ _ _ (by omega) (s.ft 101 q) (s.ft 102 q) _ j0) fun a w hK s => ?_
 refine S s<|aw q<|nw<|sw<|vw<|mw q<|yw q (y_neq · q q)<|nw fun a s => c_dec s q (fun g0 => ?_) (fun g0 => ?_)
 ·replace hg := br_t hg g0
  refine S s<|vw<|mw q<|aw q<|aw q<|nw fun a s => ?_
  apply wp_ret
  refine p_thenR ?_
  obtain rfl := si hg
  refine fin2 (fn := Tryz.f116) s q (r_tmp s q) (r_tmp s q) ?_
  exact ⟨q, lz⟩
 replace hg := br_f hg g0
 obtain ⟨r9, k0, hg⟩ := zB hg
 refine S s<|kw<|pw<|sw<|lw<|yw q (y_loadAll (kk := 1000) · q q u60 q q) fun a s => ?_
 refine lC s q func132 (c_r19_written n _ _ s.lt _ _ _ _ _ (by omega) (s.ft 101 q) (s.ft 102 q) _ k0) fun o0 a w hK hp s => ?_
 obtain ⟨rfl, n0⟩ := hp
 refine S s<|aw q<|nw<|sw<|vw<|mw q<|yw q (y_lenStrN · q u9)<|yw q (y_gtrN (i := ((r9).length)) (j := 65536) · q q)<|nw fun a s => c_dec s q (fun e0 => ?_) (fun e0 => ?_)
 ·replace hg := br_t hg e0
  have l0 : (r9).length ≤ 9223372036854775807 := (by omega)
  refine S s<|vw<|aw q<|aw q<|nw fun a s => ?_
  apply wp_ret
  refine p_thenR ?_
  obtain rfl := si hg
  refine fin2 (fn := Tryz.f116) s q (r_tmp s q) (r_tmp s q) ?_
  exact ⟨q, lz⟩
 replace hg := br_f hg e0
 refine S s<|kw<|pw<|vw<|mw q<|aw q<|aw q<|nw fun a s => ?_
 apply wp_ret
 obtain rfl := si hg
 refine fin2 (fn := Tryz.f116) s q (r_tmp s q) (r_tmp s q) ?_
 exact ⟨q, (by omega)⟩
theorem c_r21_defined (n : Nat) (M : Bs) (w0 : World) (hM : bM M w0) (x_ : Def) (b0 : OA) (d0 : Nat) (c0 : OA) (e0 : Nat) (g0 : OA) (h0 : Nat) (K0 : (x_.Name).length ≤ 9223372036854775807) (L0 : (x_.Strict.Name).length ≤ 9223372036854775807) (u0 : sR Rep.str M w0 b0 d0 x_.Strict.Path) (v0 : sR RDesc M w0 c0 e0 x_.Strict.Kids) (x0 : sR RDesc M w0 g0 h0 x_.Defaults) (r : (List UInt8)) (hg : r21_defined n x_ = some r) :
    CA Tryz.prog 89 [.agg #[vT x_.Name, .int .i64 (x_.Strict.Op), vT x_.Strict.Name, sl b0 x_.Strict.Path d0, sl c0 x_.Strict.Kids e0, sl g0 x_.Defaults h0]] w0 (fun v w => v = vT r ∧ ((r).length ≤ 9223372036854775807)) := by
 unfold r21_defined at hg
 refine enter M noB func89 q q hM ?_
 intro a s
 refine S s<|esw 101 u0<|esw 102 v0<|esw 103 x0<|vw fun a s => ?_
 refine l_seq q (l_box (zs := [vT x_.Name, vI x_.Strict.Op, vT x_.Strict.Name, sl b0 x_.Strict.Path d0, sl c0 x_.Strict.Kids e0, sl g0 x_.Defaults h0]) s 1000 q q q q fun b2 a w hb hK s => ?_)
 obtain ⟨r3, C0, hg⟩ := zB hg
 refine S s<|aw q<|nw<|sw<|lw<|yw q (bF 1 · u62 q)<|yw q (y_loadBox (kk := 1000) (n := 4) (vs := [vI x_.Strict.Op, vT x_.Strict.Name, sl b0 x_.Strict.Path d0, sl c0 x_.Strict.Kids e0]) · q q u60 q q q q) fun a s => ?_
 refine lC s q func116 (c_r19_Print n _ _ s.lt _ _ _ _ _ (by omega) (s.ft 101 q) (s.ft 102 q) _ C0) fun v6 a w hK hp s => ?_
 obtain ⟨rfl, Q0⟩ := hp
 obtain ⟨r0, hg⟩ := zC hg
 refine S s<|mw q<|yw q (y_extract · q q)<|yw q (y_extract · q q)<|aw q<|aw q<|nw<|sw<|lw<|mw q<|yw q (y_concat · q q r0)<|aw q<|nw<|sw<|vw<|aw q<|nw<|bw fun a s => ?_
 refine c_loop (σ := Nat) (fun m1 a w => ∃ (i0 : (List UInt8)) (a0 : Nat), r21_defined_L0 n x_ m1 i0 a0 = some r ∧ ((i0).length ≤ 9223372036854775807) ∧ St (cx f89 M w0) [(1, vP b2 0), (3, vT i0), (5, vI (((a0 : Nat) : Int)))] [(1000, Ob.box b2 [vT x_.Name, vI x_.Strict.Op, vT x_.Strict.Name, sl b0 x_.Strict.Path d0, sl c0 x_.Strict.Kids e0, sl g0 x_.Defaults h0] 62)] [(101, sF Rep.str b0 d0 x_.Strict.Path), (102, sF RDesc c0 e0 x_.Strict.Kids), (103, sF RDesc g0 h0 x_.Defaults)] a w) (fun m1 => m1) n ⟨([32, 61, 32] ++ r3.1), (0), hg, (by rw [List.length_append]; omega), (s.sb q q q)⟩ ?_
 clear s a; rintro m1 a w ⟨i0, a0, hg, O0, s⟩
 rcases m1 with _ | m1
 ·rw [r21_defined_L0] at hg; cases hg
 rw [r21_defined_L0] at hg
 refine S s<|sw<|vw<|mw q<|yw q (bF 5 · u62 q)<|yw q (lB 1000 · u58 q)<|yw q (lS · q u58)<|yw q (y_lssN (i := a0) (j := ((x_.Defaults).length)) · q q)<|nw fun a s => c_dec s q (fun j0 => ?_) (fun j0 => ?_)
 ·replace hg := br_t hg j0
  have J0 := SlR.mx (s.ft 103 q)
  obtain ⟨T0, k0, hg⟩ := zB hg
  obtain ⟨D0, B0, hg⟩ := zB hg
  refine S s<|kw<|pw<|sw<|bw<|sw<|lw<|yw q (bF 5 · u62 q)<|yw q (lB 1000 · u58 q)<|mw q fun a s => ?_
  obtain ⟨R0, n0, s0, t0, I0, m0, l0⟩ := SlR.elemX (s.ft 103 q) k0
  refine qq s q (eL 4 a0 s u58 n0 (lt_of_get k0) q) fun a s => ?_
  obtain ⟨E0, G0, F0, H0, rfl, M0, y0, z0⟩ := RDesc.open m0
  refine S s<|nsw 106 y0<|nsw 107 z0<|yw q (y_ldp · q s0 t0 (by simpa using l0) u60 q q) fun a s => ?_
  refine lC s q func116 (c_r19_Print n _ _ s.lt _ _ _ _ _ (by omega) (s.ft 106 q) (s.ft 107 q) _ B0) fun S0 a w hK hp s => ?_
  obtain ⟨rfl, P0⟩ := hp
  obtain ⟨o0, hg⟩ := zC hg
  obtain ⟨p0, hg⟩ := zC hg
  refine S s<|mw q<|yw q (y_extract · q q)<|yw q (y_extract · q q)<|aw q<|aw q<|nw<|lw<|mw q<|yw q (y_concat · q q o0)<|mw q<|yw q (y_concat · q q p0)<|aw q fun a s => ?_
  apply wO
  refine p_inN ?_
  refine S s<|pw<|lw<|mw q<|yw q (y_addN (i := a0) (j := 1) · q q (in64.2 (by omega)))<|aw q<|nw fun a s => ?_
  exact ⟨m1, Nat.lt_succ_self _, ⟨((i0 ++ [32, 47, 32]) ++ D0.1), (a0 + 1), hg, (by rw [List.length_append]; omega), (s.sb q q q)⟩⟩
 replace hg := br_f hg j0
 apply wp_exit
 refine p_then ?_
 refine p_then ?_
 refine p_in ?_
 obtain ⟨q0, hg⟩ := zC hg
 refine S s<|pw<|sw<|lw<|mw q<|yw q (y_concat · q q q0)<|aw q<|nw fun a s => ?_
 apply wp_ret
 obtain rfl := si hg
 refine fin1 (fn := Tryz.f89) s q (r_tmp s q) ?_
 exact ⟨q, (by rw [List.length_append]; omega)⟩
theorem c_r21_defs (n : Nat) (M : Bs) (w0 : World) (hM : bM M w0) (what_ : (List UInt8)) (V0 : (what_).length ≤ 9223372036854775807) (l_ : (List Def)) (c0 : OA) (d0 : Nat) (u0 : sR RDef M w0 c0 d0 l_) (r : (List UInt8)) (hg : r21_defs n what_ l_ = some r) :
    CA Tryz.prog 87 [vT what_, sl c0 l_ d0] w0 (fun v w => v = vT r ∧ ((r).length ≤ 9223372036854775807)) := by
 unfold r21_defs at hg
 refine enter M noB func87 q q hM ?_
 intro a s
 refine S s<|esw 101 u0<|vw<|aw q<|nw<|vw<|aw q<|nw<|sw<|vw<|aw q<|nw<|bw fun a s => ?_
 refine c_loop (σ := Nat) (fun m1 a w => ∃ (b0 : (List UInt8)) (a0 : Nat), r21_defs_L0 n what_ l_ m1 b0 a0 = some r ∧ ((b0).length ≤ 9223372036854775807) ∧ St (cx f87 M w0) [(0, vT what_), (1, sl c0 l_ d0), (5, vT b0), (6, vI (((a0 : Nat) : Int)))] [] [(101, sF RDef c0 d0 l_)] a w) (fun m1 => m1) n ⟨([]), (0), hg, lz, (s.sb q q q)⟩ ?_
 clear s a; rintro m1 a w ⟨b0, a0, hg, b1, s⟩
 rcases m1 with _ | m1
 ·rw [r21_defs_L0] at hg; cases hg
 rw [r21_defs_L0] at hg
 refine S s<|sw<|vw<|mw q<|mw q<|yw q (lS · q u33)<|yw q (y_lssN (i := a0) (j := ((l_).length)) · q q)<|nw fun a s => c_dec s q (fun g0 => ?_) (fun g0 => ?_)
 ·replace hg := br_t hg g0
  have U0 := SlR.mx (s.ft 101 q)
  obtain ⟨o0, hg⟩ := zC hg
  obtain ⟨x7, e0, hg⟩ := zB hg
  obtain ⟨p0, hg⟩ := zC hg
  obtain ⟨E0, D0, hg⟩ := zB hg
  obtain ⟨n0, hg⟩ := zC hg
  refine S s<|kw<|pw<|sw<|bw fun a s => ?_
  refine d_plan s [] [(0, some 0), (1, some 0), (2, some 0), (3, some 0), (4, some 0), (5, some 0), (6, some 0), (7, some 0), (8, some 0), (9, some 0), (10, some 0), (11, some 0), (12, some 0), (13, none), (14, none), (15, none)] q (by kernel_rfl) (by kernel_rfl) q ?_; clear s; intro wr hZ s; have hR := s.wd
  refine S s<|qw hR q (mo · q)<|qw hR q (mo · q)<|qw hR q (y_concat · q q o0)<|qw hR q (mo · q)<|qw hR q (mo · q) fun a s => ?_
  obtain ⟨d1, l0, q0, s0, S0, j0, h0⟩ := SlR.elemX (s.ft 101 q) e0
  refine S s<|qw hR q (eL 6 a0 · u33 l0 (lt_of_get e0) q)<|qw hR q (pF 0 · u62 q) fun a s => ?_
  obtain ⟨F0, L0, G0, M0, H0, O0, rfl, X0, Y0, v0, x0, y0⟩ := RDef.open j0
  refine S s<|nsw 108 v0<|nsw 109 x0<|nsw 110 y0<|qw hR q (lP · q0 s0 (h0 0 _ q) u9 q)<|qw hR q (y_concat · q q p0)<|qw hR q (mo · q)<|qw hR q (mo · q) fun a s => ?_
  obtain ⟨e1, m0, r0, t0, T0, k0, i0⟩ := SlR.elemX (s.ft 101 q) e0
  refine qt s hR q (eL 6 a0 s u33 m0 (lt_of_get e0) q) fun a s => ?_
  obtain ⟨I0, P0, J0, Q0, K0, R0, rfl, Z0, a1, z0, B0, C0⟩ := RDef.open k0
  refine S s<|nsw 111 z0<|nsw 112 B0<|nsw 113 C0<|qw hR q (y_ldp · q r0 t0 (by simpa using i0) u62 q q) fun a s => ?_
  refine l_take s q q (l_call (cap := []) s q func89 q (by kernel_rfl) q q (c_r21_defined n _ _ s.lt _ _ _ _ _ _ _ (by omega) (by omega) (s.ft 111 q) (s.ft 112 q) (s.ft 113 q) _ D0) fun g1 a w hK hp s => ?_)
  refine gz hZ hK fun hZ => ?_; clear hK
  obtain ⟨rfl, c1⟩ := hp
  refine S s<|tw q (y_concat · q q n0)<|tw q (y_assign · q) fun a s => ?_
  clear hR hZ
  refine p_inN ?_
  refine S s<|pw<|lw<|mw q<|yw q (y_addN (i := a0) (j := 1) · q q (in64.2 (by omega)))<|aw q<|nw fun a s => ?_
  exact ⟨m1, Nat.lt_succ_self _, ⟨(((b0 ++ what_) ++ x7.Name) ++ E0), (a0 + 1), hg, (by rw [List.length_append]; omega), (s.sb q q q)⟩⟩
 replace hg := br_f hg g0
 apply wp_exit
 refine p_then ?_
 refine p_then ?_
 refine p_in ?_
 refine S s<|pw<|vw<|mw q<|aw q<|nw fun a s => ?_
 apply wp_ret
 obtain rfl := si hg
 refine fin1 (fn := Tryz.f87) s q (r_tmp s q) ?_
 exact ⟨q, (by omega)⟩
theorem c_r21_affixed (n : Nat) (M : Bs) (w0 : World) (hM : bM M w0) (a_ : Affix) (b0 : OA) (c0 : Nat) (H0 : sR RChange M w0 b0 c0 a_.Pairs) (r : (List UInt8)) (hg : r21_affixed n a_ = some r) :
    CA Tryz.prog 90 [.agg #[.int .i64 (a_.Kind), sl b0 a_.Pairs c0]] w0 (fun v w => v = vT r ∧ ((r).length ≤ 9223372036854775807)) := by
 unfold r21_affixed at hg
 refine enter M noB func90 q q hM ?_
 intro a s
 replace s := s.es 101 H0
 apply wR
 refine l_seq q (l_box (zs := [vI a_.Kind, sl b0 a_.Pairs c0]) s 1000 q q q q fun b2 a w hb hK s => ?_)
 refine S s<|aw q<|nw<|vw<|aw q<|nw<|sw<|vw<|yw q (bF 0 · u92 q)<|yw q (lB 1000 · u3 q)<|nw fun a s => ?_
 obtain ⟨k3, hg, C0⟩ := zJ hg
 refine c_post (fun a w => ∃ (g0 : (List UInt8)), k3 g0 = some r ∧ ((g0).length ≤ 9223372036854775807) ∧ St (cx f90 M w0) [(1, vP b2 0), (3, vT g0)] [(1000, Ob.box b2 [vI a_.Kind, sl b0 a_.Pairs c0] 92)] [(101, sF RChange b0 c0 a_.Pairs)] a w) ?_ ?_
 ·refine S s<|bw<|vw<|yw q (y_eql · q q)<|aw q<|nw fun a s => c_dec s q (fun j0 => ?_) (fun j0 => ?_)
  ·replace hg := br_t hg j0
   refine S s<|vw<|aw q<|nw fun a s => ?_
   apply wp_ret
   refine p_inR ?_
   refine p_thenR ?_
   obtain rfl := si hg
   refine fin1 (fn := Tryz.f90) s q (r_tmp s q) ?_
   exact ⟨q, lz⟩
  replace hg := br_f hg j0
  refine S s<|vw<|yw q (y_eql · q q)<|aw q<|nw fun a s => c_dec s q (fun k0 => ?_) (fun k0 => ?_)
  ·replace hg := br_t hg k0
   refine S s<|lw<|aw q fun a s => ?_
   apply wO
   refine p_inN ?_
   apply pN
   exact ⟨([115, 117, 102, 102, 105, 120]), hg, lz, (s.sb q q q)⟩
  replace hg := br_f hg k0
  apply wp_skip
  refine p_inN ?_
  apply pN
  exact ⟨([112, 114, 101, 102, 105, 120]), hg, lz, (s.sb q q q)⟩
 clear s a; rintro a w ⟨g0, hg, S0, s⟩
 subst C0
 refine S s<|sw<|vw<|aw q<|nw<|bw fun a s => ?_
 refine c_loop (σ := Nat) (fun m1 a w => ∃ (d0 : (List UInt8)) (a0 : Nat), r21_affixed_L0 n a_ m1 d0 a0 = some r ∧ ((d0).length ≤ 9223372036854775807) ∧ St (cx f90 M w0) [(1, vP b2 0), (3, vT d0), (4, vI (((a0 : Nat) : Int)))] [(1000, Ob.box b2 [vI a_.Kind, sl b0 a_.Pairs c0] 92)] [(101, sF RChange b0 c0 a_.Pairs)] a w) (fun m1 => m1) n ⟨(g0), (0), hg, (by omega), (s.sb q q q)⟩ ?_
 clear s a; rintro m1 a w ⟨d0, a0, hg, T0, s⟩
 rcases m1 with _ | m1
 ·rw [r21_affixed_L0] at hg; cases hg
 rw [r21_affixed_L0] at hg
 refine S s<|sw<|vw<|mw q<|yw q (bF 1 · u92 q)<|yw q (lB 1000 · u90 q)<|yw q (lS · q u90)<|yw q (y_lssN (i := a0) (j := ((a_.Pairs).length)) · q q)<|nw fun a s => c_dec s q (fun l0 => ?_) (fun l0 => ?_)
 ·replace hg := br_t hg l0
  have L0 := SlR.mx (s.ft 101 q)
  refine S s<|kw<|pw<|sw<|bw<|sw<|vw<|mw q<|yw q (y_gtrN (i := a0) (j := 0) · q q)<|nw fun a s => ?_
  obtain ⟨I0, hg, t0⟩ := zJ hg
  refine c_post (fun a w => ∃ (e0 : (List UInt8)), I0 e0 = some r ∧ ((e0).length ≤ 9223372036854775807) ∧ St (cx f90 M w0) [(1, vP b2 0), (3, vT e0), (4, vI (((a0 : Nat) : Int)))] [(1000, Ob.box b2 [vI a_.Kind, sl b0 a_.Pairs c0] 92)] [(101, sF RChange b0 c0 a_.Pairs)] a w) ?_ ?_
  ·refine c_dec s q (fun i0 => ?_) (fun i0 => ?_)
   ·replace hg := br_t hg i0
    obtain ⟨u0, hg⟩ := zC hg
    refine S s<|lw<|mw q<|yw q (y_concat · q q u0)<|aw q<|nw fun a s => ?_
    exact ⟨(d0 ++ [44]), hg, (by rw [List.length_append]; omega), (s.sb q q q)⟩
   replace hg := br_f hg i0
   apply wp_skip
   apply pN
   exact ⟨(d0), hg, (by omega), (s.sb q q q)⟩
  clear s a; rintro a w ⟨e0, hg, R0, s⟩
  subst t0
  obtain ⟨v0, hg⟩ := zC hg
  obtain ⟨m0, h0, hg⟩ := zB hg
  obtain ⟨x0, hg⟩ := zC hg
  obtain ⟨y0, hg⟩ := zC hg
  obtain ⟨z0, hg⟩ := zC hg
  obtain ⟨B0, hg⟩ := zC hg
  refine d_plan s [] [(0, some 0), (1, some 0), (2, some 0), (3, some 1000), (4, some 0), (5, some 0), (6, some 0), (7, some 0), (8, some 0), (9, some 0), (10, some 0), (11, some 1000), (12, some 0), (13, some 0), (14, some 0), (15, some 0), (16, some 0), (17, some 0), (18, some 0)] q (by kernel_rfl) (by kernel_rfl) q ?_; clear s; intro wr hZ s; have hR := s.wd
  refine S s<|qw hR q (mo · q)<|qw hR q (y_concat · q q v0)<|qw hR q (bF 1 · u92 q)<|qw hR q (lB 1000 · u90 q)<|qw hR q (mo · q) fun a s => ?_
  obtain ⟨U0, r0, D0, F0, J0, p0, n0⟩ := SlR.elemX (s.ft 101 q) h0
  refine S s<|qw hR q (eL 2 a0 · u90 r0 (lt_of_get h0) q)<|qw hR q (pF 0 · u144 q) fun a s => ?_
  obtain ⟨rfl, M0, O0⟩ := RChange.open p0
  refine S s<|qw hR q (lP · D0 F0 (n0 0 _ q) u9 q)<|qw hR q (y_concat · q q x0)<|qw hR q (y_concat · q q y0)<|qw hR q (bF 1 · u92 q)<|qw hR q (lB 1000 · u90 q)<|qw hR q (mo · q) fun a s => ?_
  obtain ⟨V0, s0, E0, G0, K0, q0, o0⟩ := SlR.elemX (s.ft 101 q) h0
  refine S s<|qw hR q (eL 2 a0 · u90 s0 (lt_of_get h0) q)<|qw hR q (pF 1 · u144 q) fun a s => ?_
  obtain ⟨rfl, P0, Q0⟩ := RChange.open q0
  refine S s<|qw hR q (lP · E0 G0 (o0 1 _ q) u9 q)<|qw hR q (y_concat · q q z0)<|qw hR q (y_concat · q q B0)<|qw hR q (y_assign · q) fun a s => ?_
  clear hR hZ
  refine p_inN ?_
  refine S s<|pw<|lw<|mw q<|yw q (y_addN (i := a0) (j := 1) · q q (in64.2 (by omega)))<|aw q<|nw fun a s => ?_
  exact ⟨m1, Nat.lt_succ_self _, ⟨(((((e0 ++ [32, 34]) ++ m0.Old) ++ [34, 32, 34]) ++ m0.New) ++ [34]), (a0 + 1), hg, (by rw [List.length_append]; omega), (s.sb q q q)⟩⟩
 replace hg := br_f hg l0
 apply wp_exit
 refine p_then ?_
 refine p_then ?_
 refine p_in ?_
 refine S s<|pw<|vw<|mw q<|aw q<|nw fun a s => ?_
 apply wp_ret
 obtain rfl := si hg
 refine fin1 (fn := Tryz.f90) s q (r_tmp s q) ?_
 exact ⟨q, (by omega)⟩
end Go.Proofs.YtbhjplflnkidgaaGreat
