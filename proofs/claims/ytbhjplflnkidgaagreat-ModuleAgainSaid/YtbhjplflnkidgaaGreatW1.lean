/- Chapter 22: the walks, part 1 -/
import Derived.Test.YtbhjplflnkidgaaGreatAU
import Derived.Test.YtbhjplflnkidgaaGreatA2
namespace Go.Proofs.YtbhjplflnkidgaaGreat
open Go.Gl Go.RowKit Tryz
set_option linter.unusedVariables false
set_option linter.unusedSimpArgs false
set_option maxRecDepth 4000

set_option maxHeartbeats 1000000 in
theorem c_r21_count (n : Nat) (M : Bs) (w0 : World) (hM : ∀ b, M b → b < w0.heap.size) (m_ : Module) (b0 : Option Addr) (l0 : Nat) (c0 : Option Addr) (m0 : Nat) (d0 : Option Addr) (n0 : Nat) (e0 : Option Addr) (o0 : Nat) (g0 : Option Addr) (p0 : Nat) (h0 : Option Addr) (q0 : Nat) (i0 : Option Addr) (r0 : Nat) (j0 : Option Addr) (s0 : Nat) (a0 : Option Addr) (k0 : Nat) (E0 : (m_.Name).length ≤ 9223372036854775807) (u0 : sR Rep.str M w0 b0 l0 m_.Imports) (v0 : sR RTypeDecl M w0 c0 m0 m_.Types) (x0 : sR RDef M w0 d0 n0 m_.Templates) (y0 : sR REntryDecl M w0 e0 o0 m_.Entries) (z0 : sR RLexDecl M w0 g0 p0 m_.LexRules) (B0 : sR RDef M w0 h0 q0 m_.Rules) (C0 : sR RDef M w0 i0 r0 m_.Roots) (D0 : sR (Rep.list Rep.str) M w0 j0 s0 m_.Checks) (t0 : sR Rep.str M w0 a0 k0 m_.Drops) (r : Int) (hg : r21_count n m_ = some r) :
    Calls Tryz.prog 52 [.agg #[vT m_.Name, sl b0 m_.Imports l0, sl c0 m_.Types m0, sl d0 m_.Templates n0, sl e0 m_.Entries o0, sl g0 m_.LexRules p0, sl h0 m_.Rules q0, sl i0 m_.Roots r0, sl j0 m_.Checks s0, sl a0 m_.Drops k0]].toArray w0 (Ret noB w0 fun v w => v = .int .i64 (r)) := by
 unfold r21_count at hg
 refine enter M noB func52 q q hM ?_
 intro a s
 refine S s<|esw 101 u0<|esw 102 v0<|esw 103 x0<|esw 104 y0<|esw 105 z0<|esw 106 B0<|esw 107 C0<|esw 108 D0<|esw 109 t0<|vw fun a s => ?_
 refine l_seq q (l_box (zs := [vT m_.Name, sl b0 m_.Imports l0, sl c0 m_.Types m0, sl d0 m_.Templates n0, sl e0 m_.Entries o0, sl g0 m_.LexRules p0, sl h0 m_.Rules q0, sl i0 m_.Roots r0, sl j0 m_.Checks s0, sl a0 m_.Drops k0]) s 1000 q q q q fun b2 a w hb hK s => ?_)
 refine S s<|aw q<|nw<|vw<|yw q (bF 2 · u38 q)<|yw q (lB 1000 · u32 q)<|yw q (lS · q u32)<|yw q (bF 3 · u38 q)<|yw q (lB 1000 · u33 q)<|yw q (lS · q u33)<|yw q (y_wadd · q q)<|yw q (bF 4 · u38 q)<|yw q (lB 1000 · u34 q)<|yw q (lS · q u34)<|yw q (y_wadd · q q)<|yw q (bF 5 · u38 q)<|yw q (lB 1000 · u35 q)<|yw q (lS · q u35)<|yw q (y_wadd · q q)<|yw q (bF 6 · u38 q)<|yw q (lB 1000 · u33 q)<|yw q (lS · q u33)<|yw q (y_wadd · q q)<|yw q (bF 7 · u38 q)<|yw q (lB 1000 · u33 q)<|yw q (lS · q u33)<|yw q (y_wadd · q q)<|yw q (bF 8 · u38 q)<|yw q (lB 1000 · u36 q)<|yw q (lS · q u36)<|yw q (y_wadd · q q)<|aw q<|nw fun a s => ?_
 apply wp_ret
 obtain rfl := si hg
 exact fin1 (fn := Tryz.f52) s q (r_tmp s q) q
set_option maxHeartbeats 1000000 in
theorem c_r21_lightNames (n : Nat) (M : Bs) (w0 : World) (hM : ∀ b, M b → b < w0.heap.size) (l_ : (List (List UInt8))) (b0 : Option Addr) (c0 : Nat) (n0 : sR Rep.str M w0 b0 c0 l_) (most_ : Int) (r : Bool) (hg : r21_lightNames n l_ most_ = some r) :
    Calls Tryz.prog 73 [sl b0 l_ c0, .int .i64 (most_)].toArray w0 (Ret noB w0 fun v w => v = .bool (r)) := by
 unfold r21_lightNames at hg
 refine enter M noB func73 q q hM ?_
 intro a s
 refine S s<|esw 101 n0<|vw<|aw q<|nw<|sw<|vw<|mw q<|yw q (lS · q u25)<|mw q<|yw q (y_gtr · q q)<|nw fun a s => c_dec s q (fun d0 => ?_) (fun d0 => ?_)
 ·replace hg := br_t hg d0
  refine S s<|vw<|aw q<|nw fun a s => ?_
  apply wp_ret
  refine p_thenR ?_
  obtain rfl := si hg
  exact fin1 (fn := Tryz.f73) s q (r_tmp s q) q
 replace hg := br_f hg d0
 refine S s<|kw<|pw<|sw<|vw<|aw q<|nw<|bw fun a s => ?_
 refine c_loop (σ := Nat) (fun m1 a w => ∃ (a0 : Nat), r21_lightNames_L0 n l_ m1 a0 = some r ∧ St (cx f73 M w0) [(0, sl b0 l_ c0), (5, vI (((a0 : Nat) : Int)))] [] [(101, sF Rep.str b0 c0 l_)] a w) (fun m1 => m1) n ⟨(0), hg, (s.sb q q q)⟩ ?_
 clear s a; rintro m1 a w ⟨a0, hg, s⟩
 rcases m1 with _ | m1
 ·rw [r21_lightNames_L0] at hg; cases hg
 rw [r21_lightNames_L0] at hg
 refine S s<|sw<|vw<|mw q<|mw q<|yw q (lS · q u25)<|yw q (y_lssN (i := a0) (j := ((l_).length)) · q q)<|nw fun a s => c_dec s q (fun g0 => ?_) (fun g0 => ?_)
 ·replace hg := br_t hg g0
  have q0 := SlR.mx (s.ft 101 q)
  obtain ⟨x6, h0, hg⟩ := bind_some hg
  refine S s<|kw<|pw<|sw<|bw<|sw<|lw<|mw q<|mw q fun a s => ?_
  obtain ⟨p8, k0, l0, m0, o0, j0, i0⟩ := SlR.elemX (s.ft 101 q) h0
  refine qq s q (eL 1 a0 s u25 k0 (lt_of_get h0) q) fun a s => ?_
  obtain ⟨rfl, r0⟩ := j0
  refine S s<|yw q (lP · l0 m0 (i0 0 _ q) u9 q)<|yw q (y_lenStrN · q u9)<|yw q (y_gtrN (i := ((x6).length)) (j := 100) · q q)<|nw fun a s => c_dec s q (fun e0 => ?_) (fun e0 => ?_)
  ·replace hg := br_t hg e0
   have p0 : (x6).length ≤ 9223372036854775807 := (by omega)
   refine S s<|vw<|aw q<|nw fun a s => ?_
   apply wp_ret
   refine p_inR ?_
   refine p_thenR ?_
   refine p_thenR ?_
   refine p_inR ?_
   refine p_thenR ?_
   obtain rfl := si hg
   exact fin1 (fn := Tryz.f73) s q (r_tmp s q) q
  replace hg := br_f hg e0
  apply wp_skip
  refine p_inN ?_
  refine S s<|pw<|lw<|mw q<|yw q (y_addN (i := a0) (j := 1) · q q (in64.2 (by omega)))<|aw q<|nw fun a s => ?_
  exact ⟨m1, Nat.lt_succ_self _, ⟨(a0 + 1), hg, (s.sb q q q)⟩⟩
 replace hg := br_f hg g0
 apply wp_exit
 refine p_then ?_
 refine p_then ?_
 refine p_in ?_
 refine S s<|pw<|vw<|aw q<|nw fun a s => ?_
 apply wp_ret
 obtain rfl := si hg
 exact fin1 (fn := Tryz.f73) s q (r_tmp s q) q
set_option maxHeartbeats 1000000 in
theorem c_r21_lightTypes (n : Nat) (M : Bs) (w0 : World) (hM : ∀ b, M b → b < w0.heap.size) (t_ : (List TypeDecl)) (b0 : Option Addr) (c0 : Nat) (T1 : sR RTypeDecl M w0 b0 c0 t_) (r : Bool) (hg : r21_lightTypes n t_ = some r) :
    Calls Tryz.prog 74 [sl b0 t_ c0].toArray w0 (Ret noB w0 fun v w => v = .bool (r)) := by
 unfold r21_lightTypes at hg
 refine enter M noB func74 q q hM ?_
 intro a s
 refine S s<|esw 101 T1<|vw<|aw q<|nw<|sw<|vw<|aw q<|nw<|bw fun a s => ?_
 refine c_loop (σ := Nat) (fun m1 a w => ∃ (a0 : Nat), r21_lightTypes_L0 n t_ m1 a0 = some r ∧ St (cx f74 M w0) [(0, sl b0 t_ c0), (3, vI (((a0 : Nat) : Int)))] [] [(101, sF RTypeDecl b0 c0 t_)] a w) (fun m1 => m1) n ⟨(0), hg, (s.sb q q q)⟩ ?_
 clear s a; rintro m1 a w ⟨a0, hg, s⟩
 rcases m1 with _ | m1
 ·rw [r21_lightTypes_L0] at hg; cases hg
 rw [r21_lightTypes_L0] at hg
 refine S s<|sw<|vw<|mw q<|mw q<|yw q (lS · q u32)<|yw q (y_lssN (i := a0) (j := ((t_).length)) · q q)<|nw fun a s => c_dec s q (fun n0 => ?_) (fun n0 => ?_)
 ·replace hg := br_t hg n0
  have B3 := SlR.mx (s.ft 101 q)
  apply wp_skip
  apply pN
  apply wQ
  obtain ⟨k4, hg, o1⟩ := jn_some hg
  refine c_post (fun a w => k4 = some r ∧ St (cx f74 M w0) [(0, sl b0 t_ c0), (3, vI (((a0 : Nat) : Int)))] [] [(101, sF RTypeDecl b0 c0 t_)] a w) ?_ ?_
  ·apply wp_block
   apply wQ
   apply wQ
   obtain ⟨k5, hg, q1⟩ := jn_some hg
   refine c_post (fun a w => ∃ (t0 : Bool), k5 t0 = some r ∧ St (cx f74 M w0) [(0, sl b0 t_ c0), (3, vI (((a0 : Nat) : Int))), (35, .bool (t0))] [] [(101, sF RTypeDecl b0 c0 t_)] a w) ?_ ?_
   ·obtain ⟨x8, d0, hg⟩ := bind_some hg
    rcases Decidable.em ((100 : Nat) < ((x8.Name).length)) with i0 | i0
    ·have m0 := decide_eq_true i0
     replace hg := br_t hg i0
     refine S s<|lw<|mw q<|mw q fun a s => ?_
     obtain ⟨U3, Z0, r1, F1, m3, K0, v0⟩ := SlR.elemX (s.ft 101 q) d0
     refine S s<|yw q (eL 3 a0 · u32 Z0 (lt_of_get d0) q)<|yw q (pF 0 · u49 q) fun a s => ?_
     obtain ⟨u2, Q2, v2, R2, rfl, D3, U1, V1⟩ := RTypeDecl.open K0
     refine S s<|nsw 104 U1<|nsw 105 V1<|yw q (lP · r1 F1 (v0 0 _ q) u9 q)<|yw q (y_lenStrN · q u9)<|yw q (fun s => yl_b (y_gtrN (i := ((x8.Name).length)) (j := 100) s q q) m0)<|mw q<|gw q<|gw q<|gw q<|gw q<|gw q<|gw q<|gw q<|tw_ q<|mw q<|gw q<|gw q<|gw q<|gw q<|gw q<|gw q<|gw q<|tw_ q<|nw fun a s => ?_
     exact ⟨(true), hg, (s.sb q q q)⟩
    have m0 := decide_eq_false i0
    replace hg := br_f hg i0
    obtain ⟨s2, u0, hg⟩ := bind_some hg
    rcases Bool.eq_false_or_eq_true (!(s2)) with j0 | j0
    ·replace hg := br_t hg j0
     refine S s<|lw<|mw q<|mw q fun a s => ?_
     obtain ⟨V3, a1, s1, G1, n3, L0, x0⟩ := SlR.elemX (s.ft 101 q) d0
     refine S s<|yw q (eL 3 a0 · u32 a1 (lt_of_get d0) q)<|yw q (pF 0 · u49 q) fun a s => ?_
     obtain ⟨w2, S2, x2, T2, rfl, E3, X1, Y1⟩ := RTypeDecl.open L0
     refine S s<|nsw 108 X1<|nsw 109 Y1<|yw q (lP · s1 G1 (x0 0 _ q) u9 q)<|yw q (y_lenStrN · q u9)<|yw q (fun s => yl_b (y_gtrN (i := ((x8.Name).length)) (j := 100) s q q) m0)<|mw q<|hw q<|hw q fun a s => ?_
     obtain ⟨X3, b1, t1, H1, o3, M0, y0⟩ := SlR.elemX (s.ft 101 q) d0
     refine S s<|zw q (eL 3 a0 · u32 b1 (lt_of_get d0) q)<|zw q (pF 1 · u49 q) fun a s => ?_
     obtain ⟨y2, U2, z2, V2, rfl, F3, Z1, a2⟩ := RTypeDecl.open M0
     refine S s<|nsw 110 Z1<|nsw 111 a2<|zw q (lP · t1 H1 (y0 1 _ q) u25 q) fun a s => ?_
     refine gV s q func73 (c_r21_lightNames n _ _ s.lt _ _ _ (s.ft 110 q) _ _ u0) fun a w hK s => ?_
     refine S s<|zw q (fun s => yl_b (y_not s q) j0)<|fw q<|mw q<|gw q<|gw q<|gw q<|gw q<|gw q<|gw q<|gw q<|tw_ q<|nw fun a s => ?_
     exact ⟨(true), hg, (s.sb q q q)⟩
    replace hg := br_n hg j0
    refine S s<|lw<|mw q<|mw q fun a s => ?_
    obtain ⟨Y3, c1, u1, I1, p3, O0, z0⟩ := SlR.elemX (s.ft 101 q) d0
    refine S s<|yw q (eL 3 a0 · u32 c1 (lt_of_get d0) q)<|yw q (pF 0 · u49 q) fun a s => ?_
    obtain ⟨B2, X2, C2, Y2, rfl, G3, b2, c2⟩ := RTypeDecl.open O0
    refine S s<|nsw 114 b2<|nsw 115 c2<|yw q (lP · u1 I1 (z0 0 _ q) u9 q)<|yw q (y_lenStrN · q u9)<|yw q (fun s => yl_b (y_gtrN (i := ((x8.Name).length)) (j := 100) s q q) m0)<|mw q<|hw q<|hw q fun a s => ?_
    obtain ⟨Z3, d1, v1, J1, q3, P0, B0⟩ := SlR.elemX (s.ft 101 q) d0
    refine S s<|zw q (eL 3 a0 · u32 d1 (lt_of_get d0) q)<|zw q (pF 1 · u49 q) fun a s => ?_
    obtain ⟨D2, Z2, E2, a3, rfl, H3, d2, e2⟩ := RTypeDecl.open P0
    refine S s<|nsw 116 d2<|nsw 117 e2<|zw q (lP · v1 J1 (B0 1 _ q) u25 q) fun a s => ?_
    refine gV s q func73 (c_r21_lightNames n _ _ s.lt _ _ _ (s.ft 116 q) _ _ u0) fun a w hK s => ?_
    refine S s<|zw q (fun s => yl_b (y_not s q) j0)<|fw q<|mw q<|hw q<|hw q fun a s => ?_
    obtain ⟨a4, e1, w1, K1, r3, Q0, C0⟩ := SlR.elemX (s.ft 101 q) d0
    refine S s<|zw q (eL 3 a0 · u32 e1 (lt_of_get d0) q)<|zw q (pF 2 · u49 q) fun a s => ?_
    obtain ⟨F2, b3, G2, c3, rfl, I3, g2, h2⟩ := RTypeDecl.open Q0
    refine S s<|nsw 118 g2<|nsw 119 h2<|zw q (lP · w1 K1 (C0 2 _ q) u47 q)<|zw q (lS · q u47)<|zw q (y_gtrN (i := ((x8.Feats).length)) (j := 260) · q q)<|fw q<|nw fun a s => ?_
    exact ⟨(decide ((260 : Nat) < ((x8.Feats).length))), hg, (s.sb q q q)⟩
   clear s a; rintro a w ⟨t0, hg, s⟩
   subst q1
   refine c_cond s q (fun o0 => ?_) (fun o0 => ?_)
   ·replace hg := br_t hg o0
    refine S s<|vw<|aw q<|nw fun a s => ?_
    apply wp_ret
    refine p_thenR ?_
    refine p_inR ?_
    refine p_thenR ?_
    refine p_thenR ?_
    refine p_inR ?_
    refine p_thenR ?_
    obtain rfl := si hg
    exact fin1 (fn := Tryz.f74) s q (r_tmp s q) q
   replace hg := br_n hg o0
   refine S s<|kw<|pw<|vw<|aw q<|nw<|bw fun a s => ?_
   refine c_loop (σ := Nat) (fun m2 a w => ∃ (e0 : Nat), r21_lightTypes_L1 n t_ a0 k4 m2 e0 = some r ∧ St (cx f74 M w0) [(0, sl b0 t_ c0), (3, vI (((a0 : Nat) : Int))), (4, vI (((e0 : Nat) : Int)))] [] [(101, sF RTypeDecl b0 c0 t_)] a w) (fun m2 => m2) n ⟨(0), hg, (s.sb q q q)⟩ ?_
   clear s a; rintro m2 a w ⟨e0, hg, s⟩
   rcases m2 with _ | m2
   ·rw [r21_lightTypes_L1] at hg; cases hg
   rw [r21_lightTypes_L1] at hg
   obtain ⟨t2, g0, hg⟩ := bind_some hg
   refine S s<|sw<|sw<|lw<|mw q<|mw q<|mw q fun a s => ?_
   obtain ⟨b4, g1, x1, L1, s3, R0, D0⟩ := SlR.elemX (s.ft 101 q) g0
   refine S s<|yw q (eL 3 a0 · u32 g1 (lt_of_get g0) q)<|yw q (pF 2 · u49 q) fun a s => ?_
   obtain ⟨H2, d3, I2, e3, rfl, J3, i2, j2⟩ := RTypeDecl.open R0
   refine S s<|nsw 122 i2<|nsw 123 j2<|yw q (lP · x1 L1 (D0 2 _ q) u47 q)<|yw q (lS · q u47)<|yw q (y_lssN (i := e0) (j := ((t2.Feats).length)) · q q)<|nw fun a s => c_dec s q (fun p0 => ?_) (fun p0 => ?_)
   ·replace hg := br_t hg p0
    have C3 := SlR.mx (s.ft 123 q)
    refine S s<|kw<|pw<|sw<|bw<|sw fun a s => ?_
    obtain ⟨r2, hg, p1⟩ := jn_some hg
    refine c_post (fun a w => ∃ (s0 : Bool), r2 s0 = some r ∧ St (cx f74 M w0) [(0, sl b0 t_ c0), (3, vI (((a0 : Nat) : Int))), (4, vI (((e0 : Nat) : Int))), (69, .bool (s0))] [] [(101, sF RTypeDecl b0 c0 t_)] a w) ?_ ?_
    ·obtain ⟨l0, h0, hg⟩ := bind_some hg
     rcases Decidable.em ((100 : Nat) < ((l0.Feat).length)) with k0 | k0
     ·have r0 := decide_eq_true k0
      replace hg := br_t hg k0
      refine S s<|lw<|mw q<|mw q fun a s => ?_
      obtain ⟨c4, h1, y1, M1, t3, S0, E0⟩ := SlR.elemX (s.ft 101 q) g0
      refine S s<|yw q (eL 3 a0 · u32 h1 (lt_of_get g0) q)<|yw q (pF 2 · u49 q) fun a s => ?_
      obtain ⟨J2, g3, K2, h3, rfl, K3, k2, l2⟩ := RTypeDecl.open S0
      refine S s<|nsw 126 k2<|nsw 127 l2<|yw q (lP · y1 M1 (E0 2 _ q) u47 q)<|mw q fun a s => ?_
      obtain ⟨d4, i1, z1, O1, v3, T0, F0⟩ := SlR.elemX (s.ft 127 q) h0
      refine S s<|yw q (eL 2 e0 · u47 i1 (lt_of_get h0) q)<|yw q (pF 0 · u82 q) fun a s => ?_
      obtain ⟨rfl, L3, M3⟩ := RFeatDecl.open T0
      refine S s<|yw q (lP · z1 O1 (F0 0 _ q) u9 q)<|yw q (y_lenStrN · q u9)<|yw q (fun s => yl_b (y_gtrN (i := ((l0.Feat).length)) (j := 100) s q q) r0)<|mw q<|gw q<|gw q<|gw q<|gw q<|gw q<|gw q<|gw q<|gw q<|gw q<|gw q<|gw q<|tw_ q<|nw fun a s => ?_
      exact ⟨(true), hg, (s.sb q q q)⟩
     have r0 := decide_eq_false k0
     replace hg := br_f hg k0
     refine S s<|lw<|mw q<|mw q fun a s => ?_
     obtain ⟨e4, j1, B1, P1, w3, U0, G0⟩ := SlR.elemX (s.ft 101 q) g0
     refine S s<|yw q (eL 3 a0 · u32 j1 (lt_of_get g0) q)<|yw q (pF 2 · u49 q) fun a s => ?_
     obtain ⟨L2, i3, M2, j3, rfl, O3, n2, o2⟩ := RTypeDecl.open U0
     refine S s<|nsw 130 n2<|nsw 131 o2<|yw q (lP · B1 P1 (G0 2 _ q) u47 q)<|mw q fun a s => ?_
     obtain ⟨g4, k1, C1, Q1, x3, V0, H0⟩ := SlR.elemX (s.ft 131 q) h0
     refine S s<|yw q (eL 2 e0 · u47 k1 (lt_of_get h0) q)<|yw q (pF 0 · u82 q) fun a s => ?_
     obtain ⟨rfl, P3, Q3⟩ := RFeatDecl.open V0
     refine S s<|yw q (lP · C1 Q1 (H0 0 _ q) u9 q)<|yw q (y_lenStrN · q u9)<|yw q (fun s => yl_b (y_gtrN (i := ((l0.Feat).length)) (j := 100) s q q) r0)<|mw q<|hw q<|hw q fun a s => ?_
     obtain ⟨h4, l1, D1, R1, y3, X0, I0⟩ := SlR.elemX (s.ft 101 q) g0
     refine S s<|zw q (eL 3 a0 · u32 l1 (lt_of_get g0) q)<|zw q (pF 2 · u49 q) fun a s => ?_
     obtain ⟨O2, k3, P2, l3, rfl, R3, p2, q2⟩ := RTypeDecl.open X0
     refine S s<|nsw 132 p2<|nsw 133 q2<|zw q (lP · D1 R1 (I0 2 _ q) u47 q)<|hw q fun a s => ?_
     obtain ⟨i4, n1, E1, S1, z3, Y0, J0⟩ := SlR.elemX (s.ft 133 q) h0
     refine S s<|zw q (eL 2 e0 · u47 n1 (lt_of_get h0) q)<|zw q (pF 1 · u82 q) fun a s => ?_
     obtain ⟨rfl, S3, T3⟩ := RFeatDecl.open Y0
     refine S s<|zw q (lP · E1 S1 (J0 1 _ q) u9 q)<|zw q (y_lenStrN · q u9)<|zw q (y_gtrN (i := ((l0.Value).length)) (j := 100) · q q)<|fw q<|nw fun a s => ?_
     exact ⟨(decide ((100 : Nat) < ((l0.Value).length))), hg, (s.sb q q q)⟩
    clear s a; rintro a w ⟨s0, hg, s⟩
    subst p1
    refine c_cond s q (fun q0 => ?_) (fun q0 => ?_)
    ·replace hg := br_t hg q0
     refine S s<|vw<|aw q<|nw fun a s => ?_
     apply wp_ret
     refine p_inR ?_
     refine p_thenR ?_
     refine p_thenR ?_
     refine p_inR ?_
     refine p_inR ?_
     refine p_thenR ?_
     refine p_thenR ?_
     refine p_inR ?_
     refine p_thenR ?_
     obtain rfl := si hg
     exact fin1 (fn := Tryz.f74) s q (r_tmp s q) q
    replace hg := br_n hg q0
    apply wp_skip
    refine p_inN ?_
    refine S s<|pw<|lw<|mw q<|yw q (y_addN (i := e0) (j := 1) · q q (in64.2 (by omega)))<|aw q<|nw fun a s => ?_
    exact ⟨m2, Nat.lt_succ_self _, ⟨(e0 + 1), hg, (s.sb q q q)⟩⟩
   replace hg := br_f hg p0
   apply wp_exit
   refine p_then ?_
   refine p_then ?_
   refine p_in ?_
   refine p_inN ?_
   apply pN
   exact ⟨hg, (s.sb q q q)⟩
  clear s a; rintro a w ⟨hg, s⟩
  subst o1
  refine S s<|lw<|mw q<|yw q (y_addN (i := a0) (j := 1) · q q (in64.2 (by omega)))<|aw q<|nw fun a s => ?_
  exact ⟨m1, Nat.lt_succ_self _, ⟨(a0 + 1), hg, (s.sb q q q)⟩⟩
 replace hg := br_f hg n0
 apply wp_exit
 refine p_then ?_
 refine p_then ?_
 refine p_in ?_
 refine S s<|pw<|vw<|aw q<|nw fun a s => ?_
 apply wp_ret
 obtain rfl := si hg
 exact fin1 (fn := Tryz.f74) s q (r_tmp s q) q
set_option maxHeartbeats 1000000 in
theorem c_r19_weight (n : Nat) : ∀ (M : Bs) (w0 : World) (hM : ∀ b, M b → b < w0.heap.size) (t_ : Desc) (a0 : Option Addr) (c0 : Nat) (b0 : Option Addr) (d0 : Nat) (b1 : (t_.Name).length ≤ 9223372036854775807) (x0 : sR Rep.str M w0 a0 c0 t_.Path) (y0 : sR RDesc M w0 b0 d0 t_.Kids) (t_' : Int) (t_'' : Int) (r : Int) (hg : r19_weight n t_ t_' t_'' = some r),
    Calls Tryz.prog 135 [.agg #[.int .i64 (t_.Op), vT t_.Name, sl a0 t_.Path c0, sl b0 t_.Kids d0], .int .i64 (t_'), .int .i64 (t_'')].toArray w0 (Ret noB w0 fun v w => v = .int .i64 (r)) := by
 induction n with
 | zero => intros; rename_i hg; rw [r19_weight] at hg; cases hg
 | succ n c_self =>
 intro M w0 hM t_ a0 c0 b0 d0 b1 x0 y0 t_' t_'' r hg
 rw [r19_weight] at hg
 refine enter M noB func135 q q hM ?_
 intro a s
 let F : Al Fact := [(101, sF Rep.str a0 c0 t_.Path), (102, sF RDesc b0 d0 t_.Kids)]
 refine S s<|esw 101 x0<|esw 102 y0<|vw fun a s => ?_
 refine l_seq q (l_box (zs := [vI t_.Op, vT t_.Name, sl a0 t_.Path c0, sl b0 t_.Kids d0]) s 1000 q q q q fun b2 a w hb hK s => ?_)
 refine S s<|aw q<|nw<|sw<|sw fun a s => ?_
 obtain ⟨k3, hg, P0⟩ := jn_some hg
 refine c_post (fun a w => ∃ (v0 : Bool), k3 v0 = some r ∧ St (cx f135 M w0) [(1, vI (t_')), (2, vI (t_'')), (3, vP b2 0), (30, .bool (v0))] [(1000, Ob.box b2 [vI t_.Op, vT t_.Name, sl a0 t_.Path c0, sl b0 t_.Kids d0] 60)] F a w) ?_ ?_
 ·rcases Decidable.em ((80 : Int) < t_') with j0 | j0
  ·have k0 := decide_eq_true j0
   replace hg := br_t hg j0
   refine S s<|lw<|mw q<|yw q (fun s => yl_b (y_gtr s q q) k0)<|mw q<|gw q<|gw q<|gw q<|gw q<|tw_ q<|mw q<|gw q<|gw q<|gw q<|gw q<|tw_ q<|mw q<|gw q<|gw q<|gw q<|gw q<|gw q<|tw_ q<|nw fun a s => ?_
   exact ⟨(true), hg, (s.sb q q q)⟩
  have k0 := decide_eq_false j0
  replace hg := br_f hg j0
  rcases Decidable.em ((60 : Nat) < ((t_.Name).length)) with l0 | l0
  ·have n0 := decide_eq_true l0
   replace hg := br_t hg l0
   refine S s<|lw<|mw q<|yw q (fun s => yl_b (y_gtr s q q) k0)<|mw q<|zw q (bF 1 · u60 q)<|zw q (lB 1000 · u9 q)<|zw q (y_lenStrN · q u9)<|zw q (fun s => yl_b (y_gtrN (i := ((t_.Name).length)) (j := 60) s q q) n0)<|fw q<|mw q<|gw q<|gw q<|gw q<|gw q<|tw_ q<|mw q<|gw q<|gw q<|gw q<|gw q<|gw q<|tw_ q<|nw fun a s => ?_
   exact ⟨(true), hg, (s.sb q q q)⟩
  have n0 := decide_eq_false l0
  replace hg := br_f hg l0
  rcases Decidable.em ((80 : Nat) < ((t_.Path).length)) with m0 | m0
  ·have t0 := decide_eq_true m0
   replace hg := br_t hg m0
   have p1 := SlR.mx (s.ft 101 q)
   refine S s<|lw<|mw q<|yw q (fun s => yl_b (y_gtr s q q) k0)<|mw q<|zw q (bF 1 · u60 q)<|zw q (lB 1000 · u9 q)<|zw q (y_lenStrN · q u9)<|zw q (fun s => yl_b (y_gtrN (i := ((t_.Name).length)) (j := 60) s q q) n0)<|fw q<|mw q<|zw q (bF 2 · u60 q)<|zw q (lB 1000 · u25 q)<|zw q (lS · q u25)<|zw q (fun s => yl_b (y_gtrN (i := ((t_.Path).length)) (j := 80) s q q) t0)<|fw q<|mw q<|gw q<|gw q<|gw q<|gw q<|gw q<|tw_ q<|nw fun a s => ?_
   exact ⟨(true), hg, (s.sb q q q)⟩
  have t0 := decide_eq_false m0
  replace hg := br_f hg m0
  refine S s<|lw<|mw q<|yw q (fun s => yl_b (y_gtr s q q) k0)<|mw q<|zw q (bF 1 · u60 q)<|zw q (lB 1000 · u9 q)<|zw q (y_lenStrN · q u9)<|zw q (fun s => yl_b (y_gtrN (i := ((t_.Name).length)) (j := 60) s q q) n0)<|fw q<|mw q<|zw q (bF 2 · u60 q)<|zw q (lB 1000 · u25 q)<|zw q (lS · q u25)<|zw q (fun s => yl_b (y_gtrN (i := ((t_.Path).length)) (j := 80) s q q) t0)<|fw q<|mw q<|zw q (bF 3 · u60 q)<|zw q (lB 1000 · u58 q)<|zw q (lS · q u58)<|hw q<|zw q (y_gtr · q q)<|fw q<|nw fun a s => ?_
  exact ⟨(decide (t_'' < (((t_.Kids).length : Nat) : Int))), hg, (s.sb q q q)⟩
 clear s a; rintro a w ⟨v0, hg, s⟩
 subst P0
 refine c_cond s q (fun r0 => ?_) (fun r0 => ?_)
 ·replace hg := br_t hg r0
  obtain ⟨K0, hg⟩ := chk_some hg
  refine S s<|sw<|lw<|mw q<|yw q (y_add · q q (in64.2 K0))<|aw q<|nw fun a s => ?_
  apply wp_ret
  refine p_thenR ?_
  obtain rfl := si hg
  exact fin1 (fn := Tryz.f135) s q (r_tmp s q) q
 replace hg := br_n hg r0
 refine S s<|kw<|pw<|sw<|vw<|aw q<|nw fun a s => ?_
 obtain ⟨C0, hg, L0⟩ := jn_some hg
 refine c_post (fun a w => C0 = some r ∧ St (cx f135 M w0) [(1, vI (t_')), (2, vI (t_'')), (3, vP b2 0)] [(1000, Ob.box b2 [vI t_.Op, vT t_.Name, sl a0 t_.Path c0, sl b0 t_.Kids d0] 60)] F a w) ?_ ?_
 ·apply wp_block
  refine c_loop (σ := Nat) (fun m1 a w => ∃ (g0 : Nat), r19_weight_L0 n t_ t_'' C0 m1 g0 = some r ∧ St (cx f135 M w0) [(1, vI (t_')), (2, vI (t_'')), (3, vP b2 0), (7, vI (((g0 : Nat) : Int)))] [(1000, Ob.box b2 [vI t_.Op, vT t_.Name, sl a0 t_.Path c0, sl b0 t_.Kids d0] 60)] F a w) (fun m1 => m1) n ⟨(0), hg, (s.sb q q q)⟩ ?_
  clear s a; rintro m1 a w ⟨g0, hg, s⟩
  rcases m1 with _ | m1
  ·rw [r19_weight_L0] at hg; cases hg
  rw [r19_weight_L0] at hg
  refine S s<|sw<|vw<|mw q<|yw q (bF 2 · u60 q)<|yw q (lB 1000 · u25 q)<|yw q (lS · q u25)<|yw q (y_lssN (i := g0) (j := ((t_.Path).length)) · q q)<|nw fun a s => c_dec s q (fun o0 => ?_) (fun o0 => ?_)
  ·replace hg := br_t hg o0
   have l1 := SlR.mx (s.ft 101 q)
   obtain ⟨D0, z0, hg⟩ := bind_some hg
   refine S s<|kw<|pw<|sw<|bw<|sw<|lw<|yw q (bF 2 · u60 q)<|yw q (lB 1000 · u25 q)<|mw q fun a s => ?_
   obtain ⟨s1, I0, S0, U0, i1, G0, E0⟩ := SlR.elemX (s.ft 101 q) z0
   refine qq s q (eL 1 g0 s u25 I0 (lt_of_get z0) q) fun a s => ?_
   obtain ⟨rfl, q1⟩ := G0
   refine S s<|yw q (lP · S0 U0 (E0 0 _ q) u9 q)<|yw q (y_lenStrN · q u9)<|yw q (y_gtrN (i := ((D0).length)) (j := 60) · q q)<|nw fun a s => c_dec s q (fun p0 => ?_) (fun p0 => ?_)
   ·replace hg := br_t hg p0
    have n1 : (D0).length ≤ 9223372036854775807 := (by omega)
    obtain ⟨M0, hg⟩ := chk_some hg
    refine S s<|sw<|lw<|mw q<|yw q (y_add · q q (in64.2 M0))<|aw q<|nw fun a s => ?_
    apply wp_ret
    refine p_inR ?_
    refine p_thenR ?_
    refine p_thenR ?_
    refine p_inR ?_
    refine p_thenR ?_
    obtain rfl := si hg
    exact fin1 (fn := Tryz.f135) s q (r_tmp s q) q
   replace hg := br_f hg p0
   apply wp_skip
   refine p_inN ?_
   refine S s<|pw<|lw<|mw q<|yw q (y_addN (i := g0) (j := 1) · q q (in64.2 (by omega)))<|aw q<|nw fun a s => ?_
   exact ⟨m1, Nat.lt_succ_self _, ⟨(g0 + 1), hg, (s.sb q q q)⟩⟩
  replace hg := br_f hg o0
  apply wp_exit
  refine p_then ?_
  refine p_then ?_
  refine p_in ?_
  apply pN
  exact ⟨hg, (s.sb q q q)⟩
 clear s a; rintro a w ⟨hg, s⟩
 subst L0
 refine S s<|vw<|aw q<|nw<|sw<|vw<|aw q<|nw<|bw fun a s => ?_
 refine c_loop (σ := Nat) (fun m2 a w => ∃ (h0 : Int) (e0 : Nat), r19_weight_L1 n t_ t_' t_'' (r19_weight n) m2 h0 e0 = some r ∧ St (cx f135 M w0) [(1, vI (t_')), (2, vI (t_'')), (3, vP b2 0), (8, vI h0), (9, vI (((e0 : Nat) : Int)))] [(1000, Ob.box b2 [vI t_.Op, vT t_.Name, sl a0 t_.Path c0, sl b0 t_.Kids d0] 60)] F a w) (fun m2 => m2) n ⟨(1), (0), hg, (s.sb q q q)⟩ ?_
 clear s a; rintro m2 a w ⟨h0, e0, hg, s⟩
 rcases m2 with _ | m2
 ·rw [r19_weight_L1] at hg; cases hg
 rw [r19_weight_L1] at hg
 apply wQ
 apply wQ
 obtain ⟨a1, hg, O0⟩ := jn_some hg
 refine c_post (fun a w => ∃ (u0 : Bool), a1 u0 = some r ∧ St (cx f135 M w0) [(1, vI (t_')), (2, vI (t_'')), (3, vP b2 0), (8, vI h0), (9, vI (((e0 : Nat) : Int))), (58, .bool (u0))] [(1000, Ob.box b2 [vI t_.Op, vT t_.Name, sl a0 t_.Path c0, sl b0 t_.Kids d0] 60)] F a w) ?_ ?_
 ·rcases Decidable.em (e0 < ((t_.Kids).length)) with i0 | i0
  ·have s0 := decide_eq_true i0
   replace hg := br_t hg i0
   have o1 := SlR.mx (s.ft 102 q)
   refine S s<|lw<|mw q<|yw q (bF 3 · u60 q)<|yw q (lB 1000 · u58 q)<|yw q (lS · q u58)<|yw q (fun s => yl_b (y_lssN (i := e0) (j := ((t_.Kids).length)) s q q) s0)<|mw q<|hw q<|hw q<|zw q (y_leq · q q)<|tw_ q<|nw fun a s => ?_
   exact ⟨(decide (h0 ≤ t_'')), hg, (s.sb q q q)⟩
  have s0 := decide_eq_false i0
  replace hg := br_f hg i0
  refine S s<|lw<|mw q<|yw q (bF 3 · u60 q)<|yw q (lB 1000 · u58 q)<|yw q (lS · q u58)<|yw q (fun s => yl_b (y_lssN (i := e0) (j := ((t_.Kids).length)) s q q) s0)<|mw q<|gw q<|gw q<|gw q<|fw q<|nw fun a s => ?_
  exact ⟨(false), hg, (s.sb q q q)⟩
 clear s a; rintro a w ⟨u0, hg, s⟩
 subst O0
 refine c_cond s q (fun q0 => ?_) (fun q0 => ?_)
 ·replace hg := br_t hg q0
  obtain ⟨u1, B0, hg⟩ := bind_some hg
  obtain ⟨Q0, hg⟩ := chk_some hg
  obtain ⟨c1, Z0, hg⟩ := bind_some hg
  obtain ⟨R0, hg⟩ := chk_some hg
  refine S s<|kw<|pw<|sw<|bw<|lw<|mw q<|yw q (bF 3 · u60 q)<|yw q (lB 1000 · u58 q)<|mw q fun a s => ?_
  obtain ⟨t1, J0, T0, V0, j1, H0, F0⟩ := SlR.elemX (s.ft 102 q) B0
  refine qq s q (eL 4 e0 s u58 J0 (lt_of_get B0) q) fun a s => ?_
  obtain ⟨d1, g1, e1, h1, rfl, r1, X0, Y0⟩ := RDesc.open H0
  refine S s<|nsw 105 X0<|nsw 106 Y0<|yw q (y_ldp · q T0 V0 (by simpa using F0) u60 q q)<|mw q<|yw q (y_add · q q (in64.2 Q0))<|mw q fun a s => ?_
  refine lV s q func135 (c_self _ _ s.lt _ _ _ _ _ (by omega) (s.ft 105 q) (s.ft 106 q) _ _ _ Z0) fun a w hK s => ?_
  refine S s<|yw q (y_add · q q (in64.2 R0))<|aw q fun a s => ?_
  apply wO
  refine p_inN ?_
  obtain ⟨k1, hg⟩ := chk_some hg
  refine S s<|pw<|lw<|mw q<|yw q (y_addN (i := e0) (j := 1) · q q (in64.2 (by omega)))<|aw q<|nw fun a s => ?_
  exact ⟨m2, Nat.lt_succ_self _, ⟨(h0 + c1), (e0 + 1), hg, (s.sb q q q)⟩⟩
 replace hg := br_n hg q0
 apply wp_exit
 refine p_then ?_
 refine p_then ?_
 refine p_in ?_
 refine S s<|pw<|vw<|mw q<|aw q<|nw fun a s => ?_
 apply wp_ret
 obtain rfl := si hg
 exact fin1 (fn := Tryz.f135) s q (r_tmp s q) q
set_option maxHeartbeats 1000000 in
theorem c_r19_Light (n : Nat) (M : Bs) (w0 : World) (hM : ∀ b, M b → b < w0.heap.size) (d_ : Desc) (a0 : Option Addr) (c0 : Nat) (b0 : Option Addr) (d0 : Nat) (i0 : (d_.Name).length ≤ 9223372036854775807) (e0 : sR Rep.str M w0 a0 c0 d_.Path) (g0 : sR RDesc M w0 b0 d0 d_.Kids) (most_ : Int) (r : Bool) (hg : r19_Light n d_ most_ = some r) :
    Calls Tryz.prog 126 [.agg #[.int .i64 (d_.Op), vT d_.Name, sl a0 d_.Path c0, sl b0 d_.Kids d0], .int .i64 (most_)].toArray w0 (Ret noB w0 fun v w => v = .bool (r)) := by
 unfold r19_Light at hg
 refine enter M noB func126 q q hM ?_
 intro a s
 refine S s<|esw 101 e0<|esw 102 g0<|vw fun a s => ?_
 refine l_seq q (l_box (zs := [vI d_.Op, vT d_.Name, sl a0 d_.Path c0, sl b0 d_.Kids d0]) s 1000 q q q q fun b2 a w hb hK s => ?_)
 obtain ⟨r3, h0, hg⟩ := bind_some hg
 refine S s<|aw q<|nw<|sw<|lw<|yw q (y_loadAll (kk := 1000) · q q u60 q q)<|mw q fun a s => ?_
 refine lV s q func135 (c_r19_weight n _ _ s.lt _ _ _ _ _ (by omega) (s.ft 101 q) (s.ft 102 q) _ _ _ h0) fun a w hK s => ?_
 refine S s<|mw q<|yw q (y_leq · q q)<|aw q<|nw fun a s => ?_
 apply wp_ret
 obtain rfl := si hg
 exact fin1 (fn := Tryz.f126) s q (r_tmp s q) q
set_option maxHeartbeats 1000000 in
theorem c_r21_lightDef (n : Nat) (M : Bs) (w0 : World) (hM : ∀ b, M b → b < w0.heap.size) (x_ : Def) (b0 : Option Addr) (d0 : Nat) (c0 : Option Addr) (e0 : Nat) (i0 : Option Addr) (j0 : Nat) (O0 : (x_.Name).length ≤ 9223372036854775807) (P0 : (x_.Strict.Name).length ≤ 9223372036854775807) (y0 : sR Rep.str M w0 b0 d0 x_.Strict.Path) (z0 : sR RDesc M w0 c0 e0 x_.Strict.Kids) (B0 : sR RDesc M w0 i0 j0 x_.Defaults) (r : Bool) (hg : r21_lightDef n x_ = some r) :
    Calls Tryz.prog 109 [.agg #[vT x_.Name, .int .i64 (x_.Strict.Op), vT x_.Strict.Name, sl b0 x_.Strict.Path d0, sl c0 x_.Strict.Kids e0, sl i0 x_.Defaults j0]].toArray w0 (Ret noB w0 fun v w => v = .bool (r)) := by
 unfold r21_lightDef at hg
 refine enter M noB func109 q q hM ?_
 intro a s
 let F : Al Fact := [(101, sF Rep.str b0 d0 x_.Strict.Path), (102, sF RDesc c0 e0 x_.Strict.Kids), (103, sF RDesc i0 j0 x_.Defaults)]
 let B : List Value := [vT x_.Name, vI x_.Strict.Op, vT x_.Strict.Name, sl b0 x_.Strict.Path d0, sl c0 x_.Strict.Kids e0, sl i0 x_.Defaults j0]
 refine S s<|esw 101 y0<|esw 102 z0<|esw 103 B0<|vw fun a s => ?_
 refine l_seq q (l_box (zs := B) s 1000 q q q q fun b2 a w hb hK s => ?_)
 refine S s<|aw q<|nw<|sw<|sw fun a s => ?_
 obtain ⟨k3, hg, u0⟩ := jn_some hg
 refine c_post (fun a w => ∃ (p0 : Bool), k3 p0 = some r ∧ St (cx f109 M w0) [(1, vP b2 0), (19, .bool (p0))] [(1000, Ob.box b2 B 62)] F a w) ?_ ?_
 ·rcases Decidable.em ((60 : Nat) < ((x_.Name).length)) with g0 | g0
  ·have k0 := decide_eq_true g0
   replace hg := br_t hg g0
   refine S s<|lw<|yw q (bF 0 · u62 q)<|yw q (lB 1000 · u9 q)<|yw q (y_lenStrN · q u9)<|yw q (fun s => yl_b (y_gtrN (i := ((x_.Name).length)) (j := 60) s q q) k0)<|mw q<|gw q<|gw q<|gw q<|gw q<|tw_ q<|mw q<|gw q<|gw q<|gw q<|gw q<|tw_ q<|nw fun a s => ?_
   exact ⟨(true), hg, (s.sb q q q)⟩
  have k0 := decide_eq_false g0
  replace hg := br_f hg g0
  rcases Decidable.em ((8 : Nat) < ((x_.Defaults).length)) with h0 | h0
  ·have o0 := decide_eq_true h0
   replace hg := br_t hg h0
   have M0 := SlR.mx (s.ft 103 q)
   refine S s<|lw<|yw q (bF 0 · u62 q)<|yw q (lB 1000 · u9 q)<|yw q (y_lenStrN · q u9)<|yw q (fun s => yl_b (y_gtrN (i := ((x_.Name).length)) (j := 60) s q q) k0)<|mw q<|zw q (bF 5 · u62 q)<|zw q (lB 1000 · u58 q)<|zw q (lS · q u58)<|zw q (fun s => yl_b (y_gtrN (i := ((x_.Defaults).length)) (j := 8) s q q) o0)<|fw q<|mw q<|gw q<|gw q<|gw q<|gw q<|tw_ q<|nw fun a s => ?_
   exact ⟨(true), hg, (s.sb q q q)⟩
  have o0 := decide_eq_false h0
  replace hg := br_f hg h0
  obtain ⟨r8, F0, hg⟩ := bind_some hg
  refine S s<|lw<|yw q (bF 0 · u62 q)<|yw q (lB 1000 · u9 q)<|yw q (y_lenStrN · q u9)<|yw q (fun s => yl_b (y_gtrN (i := ((x_.Name).length)) (j := 60) s q q) k0)<|mw q<|zw q (bF 5 · u62 q)<|zw q (lB 1000 · u58 q)<|zw q (lS · q u58)<|zw q (fun s => yl_b (y_gtrN (i := ((x_.Defaults).length)) (j := 8) s q q) o0)<|fw q<|mw q<|zw q (bF 1 · u62 q)<|zw q (y_loadBox (kk := 1000) (n := 4) (vs := [vI x_.Strict.Op, vT x_.Strict.Name, sl b0 x_.Strict.Path d0, sl c0 x_.Strict.Kids e0]) · q q u60 q q q q) fun a s => ?_
  refine gV s q func126 (c_r19_Light n _ _ s.lt _ _ _ _ _ (by omega) (s.ft 101 q) (s.ft 102 q) _ _ F0) fun a w hK s => ?_
  refine S s<|zw q (y_not · q)<|fw q<|nw fun a s => ?_
  exact ⟨(!(r8)), hg, (s.sb q q q)⟩
 clear s a; rintro a w ⟨p0, hg, s⟩
 subst u0
 refine c_cond s q (fun l0 => ?_) (fun l0 => ?_)
 ·replace hg := br_t hg l0
  refine S s<|vw<|aw q<|nw fun a s => ?_
  apply wp_ret
  refine p_thenR ?_
  obtain rfl := si hg
  exact fin1 (fn := Tryz.f109) s q (r_tmp s q) q
 replace hg := br_n hg l0
 refine S s<|kw<|pw<|sw<|vw<|aw q<|nw<|bw fun a s => ?_
 refine c_loop (σ := Nat) (fun m1 a w => ∃ (a0 : Nat), r21_lightDef_L0 n x_ m1 a0 = some r ∧ St (cx f109 M w0) [(1, vP b2 0), (3, vI (((a0 : Nat) : Int)))] [(1000, Ob.box b2 B 62)] F a w) (fun m1 => m1) n ⟨(0), hg, (s.sb q q q)⟩ ?_
 clear s a; rintro m1 a w ⟨a0, hg, s⟩
 rcases m1 with _ | m1
 ·rw [r21_lightDef_L0] at hg; cases hg
 rw [r21_lightDef_L0] at hg
 refine S s<|sw<|vw<|mw q<|yw q (bF 5 · u62 q)<|yw q (lB 1000 · u58 q)<|yw q (lS · q u58)<|yw q (y_lssN (i := a0) (j := ((x_.Defaults).length)) · q q)<|nw fun a s => c_dec s q (fun m0 => ?_) (fun m0 => ?_)
 ·replace hg := br_t hg m0
  have L0 := SlR.mx (s.ft 103 q)
  obtain ⟨T0, q0, hg⟩ := bind_some hg
  obtain ⟨S0, E0, hg⟩ := bind_some hg
  refine S s<|kw<|pw<|sw<|bw<|sw<|lw<|yw q (bF 5 · u62 q)<|yw q (lB 1000 · u58 q)<|mw q fun a s => ?_
  obtain ⟨R0, t0, v0, x0, K0, s0, r0⟩ := SlR.elemX (s.ft 103 q) q0
  refine qq s q (eL 4 a0 s u58 t0 (lt_of_get q0) q) fun a s => ?_
  obtain ⟨G0, I0, H0, J0, rfl, Q0, C0, D0⟩ := RDesc.open s0
  refine S s<|nsw 106 C0<|nsw 107 D0<|yw q (y_ldp · q v0 x0 (by simpa using r0) u60 q q) fun a s => ?_
  refine lV s q func126 (c_r19_Light n _ _ s.lt _ _ _ _ _ (by omega) (s.ft 106 q) (s.ft 107 q) _ _ E0) fun a w hK s => ?_
  refine S s<|yw q (y_not · q)<|nw fun a s => c_cond s q (fun n0 => ?_) (fun n0 => ?_)
  ·replace hg := br_t hg n0
   refine S s<|vw<|aw q<|nw fun a s => ?_
   apply wp_ret
   refine p_inR ?_
   refine p_thenR ?_
   refine p_thenR ?_
   refine p_inR ?_
   refine p_thenR ?_
   obtain rfl := si hg
   exact fin1 (fn := Tryz.f109) s q (r_tmp s q) q
  replace hg := br_n hg n0
  apply wp_skip
  refine p_inN ?_
  refine S s<|pw<|lw<|mw q<|yw q (y_addN (i := a0) (j := 1) · q q (in64.2 (by omega)))<|aw q<|nw fun a s => ?_
  exact ⟨m1, Nat.lt_succ_self _, ⟨(a0 + 1), hg, (s.sb q q q)⟩⟩
 replace hg := br_f hg m0
 apply wp_exit
 refine p_then ?_
 refine p_then ?_
 refine p_in ?_
 refine S s<|pw<|vw<|aw q<|nw fun a s => ?_
 apply wp_ret
 obtain rfl := si hg
 exact fin1 (fn := Tryz.f109) s q (r_tmp s q) q
set_option maxHeartbeats 1000000 in
theorem c_r21_lightDefs (n : Nat) (M : Bs) (w0 : World) (hM : ∀ b, M b → b < w0.heap.size) (l_ : (List Def)) (b0 : Option Addr) (c0 : Nat) (m0 : sR RDef M w0 b0 c0 l_) (r : Bool) (hg : r21_lightDefs n l_ = some r) :
    Calls Tryz.prog 75 [sl b0 l_ c0].toArray w0 (Ret noB w0 fun v w => v = .bool (r)) := by
 unfold r21_lightDefs at hg
 refine enter M noB func75 q q hM ?_
 intro a s
 refine S s<|esw 101 m0<|vw<|aw q<|nw<|sw<|vw<|aw q<|nw<|bw fun a s => ?_
 refine c_loop (σ := Nat) (fun m1 a w => ∃ (a0 : Nat), r21_lightDefs_L0 n l_ m1 a0 = some r ∧ St (cx f75 M w0) [(0, sl b0 l_ c0), (3, vI (((a0 : Nat) : Int)))] [] [(101, sF RDef b0 c0 l_)] a w) (fun m1 => m1) n ⟨(0), hg, (s.sb q q q)⟩ ?_
 clear s a; rintro m1 a w ⟨a0, hg, s⟩
 rcases m1 with _ | m1
 ·rw [r21_lightDefs_L0] at hg; cases hg
 rw [r21_lightDefs_L0] at hg
 refine S s<|sw<|vw<|mw q<|mw q<|yw q (lS · q u33)<|yw q (y_lssN (i := a0) (j := ((l_).length)) · q q)<|nw fun a s => c_dec s q (fun e0 => ?_) (fun e0 => ?_)
 ·replace hg := br_t hg e0
  have z0 := SlR.mx (s.ft 101 q)
  obtain ⟨x5, g0, hg⟩ := bind_some hg
  obtain ⟨r7, q0, hg⟩ := bind_some hg
  refine S s<|kw<|pw<|sw<|bw<|sw<|lw<|mw q<|mw q fun a s => ?_
  obtain ⟨D0, j0, k0, l0, y0, i0, h0⟩ := SlR.elemX (s.ft 101 q) g0
  refine qq s q (eL 6 a0 s u33 j0 (lt_of_get g0) q) fun a s => ?_
  obtain ⟨r0, u0, s0, v0, t0, x0, rfl, B0, C0, n0, o0, p0⟩ := RDef.open i0
  refine S s<|nsw 105 n0<|nsw 106 o0<|nsw 107 p0<|yw q (y_ldp · q k0 l0 (by simpa using h0) u62 q q) fun a s => ?_
  refine lV s q func109 (c_r21_lightDef n _ _ s.lt _ _ _ _ _ _ _ (by omega) (by omega) (s.ft 105 q) (s.ft 106 q) (s.ft 107 q) _ q0) fun a w hK s => ?_
  refine S s<|yw q (y_not · q)<|nw fun a s => c_cond s q (fun d0 => ?_) (fun d0 => ?_)
  ·replace hg := br_t hg d0
   refine S s<|vw<|aw q<|nw fun a s => ?_
   apply wp_ret
   refine p_inR ?_
   refine p_thenR ?_
   refine p_thenR ?_
   refine p_inR ?_
   refine p_thenR ?_
   obtain rfl := si hg
   exact fin1 (fn := Tryz.f75) s q (r_tmp s q) q
  replace hg := br_n hg d0
  apply wp_skip
  refine p_inN ?_
  refine S s<|pw<|lw<|mw q<|yw q (y_addN (i := a0) (j := 1) · q q (in64.2 (by omega)))<|aw q<|nw fun a s => ?_
  exact ⟨m1, Nat.lt_succ_self _, ⟨(a0 + 1), hg, (s.sb q q q)⟩⟩
 replace hg := br_f hg e0
 apply wp_exit
 refine p_then ?_
 refine p_then ?_
 refine p_in ?_
 refine S s<|pw<|vw<|aw q<|nw fun a s => ?_
 apply wp_ret
 obtain rfl := si hg
 exact fin1 (fn := Tryz.f75) s q (r_tmp s q) q
set_option maxHeartbeats 1000000 in
theorem c_r21_lightWords (n : Nat) (M : Bs) (w0 : World) (hM : ∀ b, M b → b < w0.heap.size) (t_ : Module) (o0 : Option Addr) (y0 : Nat) (p0 : Option Addr) (z0 : Nat) (q0 : Option Addr) (B0 : Nat) (r0 : Option Addr) (C0 : Nat) (s0 : Option Addr) (D0 : Nat) (t0 : Option Addr) (E0 : Nat) (u0 : Option Addr) (F0 : Nat) (v0 : Option Addr) (G0 : Nat) (n0 : Option Addr) (x0 : Nat) (e6 : (t_.Name).length ≤ 9223372036854775807) (K2 : sR Rep.str M w0 o0 y0 t_.Imports) (L2 : sR RTypeDecl M w0 p0 z0 t_.Types) (M2 : sR RDef M w0 q0 B0 t_.Templates) (O2 : sR REntryDecl M w0 r0 C0 t_.Entries) (P2 : sR RLexDecl M w0 s0 D0 t_.LexRules) (Q2 : sR RDef M w0 t0 E0 t_.Rules) (R2 : sR RDef M w0 u0 F0 t_.Roots) (S2 : sR (Rep.list Rep.str) M w0 v0 G0 t_.Checks) (J2 : sR Rep.str M w0 n0 x0 t_.Drops) (r : Bool) (hg : r21_lightWords n t_ = some r) :
    Calls Tryz.prog 76 [.agg #[vT t_.Name, sl o0 t_.Imports y0, sl p0 t_.Types z0, sl q0 t_.Templates B0, sl r0 t_.Entries C0, sl s0 t_.LexRules D0, sl t0 t_.Rules E0, sl u0 t_.Roots F0, sl v0 t_.Checks G0, sl n0 t_.Drops x0]].toArray w0 (Ret noB w0 fun v w => v = .bool (r)) := by
 unfold r21_lightWords at hg
 refine enter M noB func76 q q hM ?_
 intro a s
 let F : Al Fact := [(101, sF Rep.str o0 y0 t_.Imports), (102, sF RTypeDecl p0 z0 t_.Types), (103, sF RDef q0 B0 t_.Templates), (104, sF REntryDecl r0 C0 t_.Entries), (105, sF RLexDecl s0 D0 t_.LexRules), (106, sF RDef t0 E0 t_.Rules), (107, sF RDef u0 F0 t_.Roots), (108, sF (Rep.list Rep.str) v0 G0 t_.Checks), (109, sF Rep.str n0 x0 t_.Drops)]
 let B : List Value := [vT t_.Name, sl o0 t_.Imports y0, sl p0 t_.Types z0, sl q0 t_.Templates B0, sl r0 t_.Entries C0, sl s0 t_.LexRules D0, sl t0 t_.Rules E0, sl u0 t_.Roots F0, sl v0 t_.Checks G0, sl n0 t_.Drops x0]
 refine S s<|esw 101 K2<|esw 102 L2<|esw 103 M2<|esw 104 O2<|esw 105 P2<|esw 106 Q2<|esw 107 R2<|esw 108 S2<|esw 109 J2<|vw fun a s => ?_
 refine l_seq q (l_box (zs := B) s 1000 q q q q fun b2 a w hb hK s => ?_)
 refine S s<|aw q<|nw<|sw<|vw<|aw q<|nw fun a s => ?_
 obtain ⟨k3, hg, X1⟩ := jn_some hg
 refine c_post (fun a w => k3 = some r ∧ St (cx f76 M w0) [(1, vP b2 0)] [(1000, Ob.box b2 B 38)] F a w) ?_ ?_
 ·apply wp_block
  refine c_loop (σ := Nat) (fun m1 a w => ∃ (b0 : Nat), r21_lightWords_L0 n t_ k3 m1 b0 = some r ∧ St (cx f76 M w0) [(1, vP b2 0), (3, vI (((b0 : Nat) : Int)))] [(1000, Ob.box b2 B 38)] F a w) (fun m1 => m1) n ⟨(0), hg, (s.sb q q q)⟩ ?_
  clear s a; rintro m1 a w ⟨b0, hg, s⟩
  rcases m1 with _ | m1
  ·rw [r21_lightWords_L0] at hg; cases hg
  rw [r21_lightWords_L0] at hg
  refine S s<|sw<|vw<|mw q<|yw q (bF 4 · u38 q)<|yw q (lB 1000 · u34 q)<|yw q (lS · q u34)<|yw q (y_lssN (i := b0) (j := ((t_.Entries).length)) · q q)<|nw fun a s => c_dec s q (fun K0 => ?_) (fun K0 => ?_)
  ·replace hg := br_t hg K0
   have b6 := SlR.mx (s.ft 104 q)
   refine S s<|kw<|pw<|sw<|bw<|sw fun a s => ?_
   obtain ⟨k7, hg, d2⟩ := jn_some hg
   refine c_post (fun a w => ∃ (U0 : Bool), k7 U0 = some r ∧ St (cx f76 M w0) [(1, vP b2 0), (3, vI (((b0 : Nat) : Int))), (31, .bool (U0))] [(1000, Ob.box b2 B 38)] F a w) ?_ ?_
   ·obtain ⟨Z6, g0, hg⟩ := bind_some hg
    obtain ⟨T3, Y0, hg⟩ := bind_some hg
    rcases Bool.eq_false_or_eq_true (!(T3)) with j0 | j0
    ·replace hg := br_t hg j0
     refine S s<|lw<|yw q (bF 4 · u38 q)<|yw q (lB 1000 · u34 q)<|mw q fun a s => ?_
     obtain ⟨J6, I1, g2, v2, L5, t1, d1⟩ := SlR.elemX (s.ft 104 q) g0
     refine S s<|yw q (eL 7 b0 · u34 I1 (lt_of_get g0) q)<|yw q (pF 0 · u89 q) fun a s => ?_
     obtain ⟨Z3, T4, a4, U4, b4, V4, c4, X4, rfl, T2, g6, h6, U2, V2, X2⟩ := REntryDecl.open t1
     refine S s<|nsw 114 T2<|nsw 115 U2<|nsw 116 V2<|nsw 117 X2<|yw q (lP · g2 v2 (d1 0 _ q) u25 q) fun a s => ?_
     refine lV s q func73 (c_r21_lightNames n _ _ s.lt _ _ _ (s.ft 114 q) _ _ Y0) fun a w hK s => ?_
     refine S s<|yw q (fun s => yl_b (y_not s q) j0)<|mw q<|gw q<|gw q<|gw q<|gw q<|gw q<|gw q<|gw q<|gw q<|tw_ q<|nw fun a s => ?_
     exact ⟨(true), hg, (s.sb q q q)⟩
    replace hg := br_n hg j0
    obtain ⟨U3, O3, hg⟩ := bind_some hg
    refine S s<|lw<|yw q (bF 4 · u38 q)<|yw q (lB 1000 · u34 q)<|mw q fun a s => ?_
    obtain ⟨K6, J1, h2, w2, M5, u1, e1⟩ := SlR.elemX (s.ft 104 q) g0
    refine S s<|yw q (eL 7 b0 · u34 J1 (lt_of_get g0) q)<|yw q (pF 0 · u89 q) fun a s => ?_
    obtain ⟨d4, Y4, e4, Z4, g4, a5, h4, b5, rfl, Y2, i6, j6, Z2, a3, b3⟩ := REntryDecl.open u1
    refine S s<|nsw 122 Y2<|nsw 123 Z2<|nsw 124 a3<|nsw 125 b3<|yw q (lP · h2 w2 (e1 0 _ q) u25 q) fun a s => ?_
    refine lV s q func73 (c_r21_lightNames n _ _ s.lt _ _ _ (s.ft 122 q) _ _ Y0) fun a w hK s => ?_
    refine S s<|yw q (fun s => yl_b (y_not s q) j0)<|mw q<|zw q (bF 4 · u38 q)<|zw q (lB 1000 · u34 q)<|hw q fun a s => ?_
    obtain ⟨L6, K1, i2, x2, O5, v1, g1⟩ := SlR.elemX (s.ft 104 q) g0
    refine S s<|zw q (eL 7 b0 · u34 K1 (lt_of_get g0) q)<|zw q (pF 1 · u89 q) fun a s => ?_
    obtain ⟨i4, c5, j4, d5, k4, e5, l4, g5, rfl, c3, k6, l6, d3, e3, g3⟩ := REntryDecl.open v1
    refine S s<|nsw 126 c3<|nsw 127 d3<|nsw 128 e3<|nsw 129 g3<|zw q (lD [_, _, _, _, _, _] 1 · i2 x2 g1 u62 q) fun a s => ?_
    refine gV s q func109 (c_r21_lightDef n _ _ s.lt _ _ _ _ _ _ _ (by omega) (by omega) (s.ft 127 q) (s.ft 128 q) (s.ft 129 q) _ O3) fun a w hK s => ?_
    refine S s<|zw q (y_not · q)<|fw q<|nw fun a s => ?_
    exact ⟨(!(U3)), hg, (s.sb q q q)⟩
   clear s a; rintro a w ⟨U0, hg, s⟩
   subst d2
   refine c_cond s q (fun I0 => ?_) (fun I0 => ?_)
   ·replace hg := br_t hg I0
    refine S s<|vw<|aw q<|nw fun a s => ?_
    apply wp_ret
    refine p_inR ?_
    refine p_thenR ?_
    refine p_thenR ?_
    refine p_inR ?_
    refine p_thenR ?_
    obtain rfl := si hg
    exact fin1 (fn := Tryz.f76) s q (r_tmp s q) q
   replace hg := br_n hg I0
   apply wp_skip
   refine p_inN ?_
   refine S s<|pw<|lw<|mw q<|yw q (y_addN (i := b0) (j := 1) · q q (in64.2 (by omega)))<|aw q<|nw fun a s => ?_
   exact ⟨m1, Nat.lt_succ_self _, ⟨(b0 + 1), hg, (s.sb q q q)⟩⟩
  replace hg := br_f hg K0
  apply wp_exit
  refine p_then ?_
  refine p_then ?_
  refine p_in ?_
  apply pN
  exact ⟨hg, (s.sb q q q)⟩
 clear s a; rintro a w ⟨hg, s⟩
 subst X1
 refine S s<|sw<|vw<|aw q<|nw fun a s => ?_
 obtain ⟨a1, hg, Y1⟩ := jn_some hg
 refine c_post (fun a w => a1 = some r ∧ St (cx f76 M w0) [(1, vP b2 0)] [(1000, Ob.box b2 B 38)] F a w) ?_ ?_
 ·apply wp_block
  refine c_loop (σ := Nat) (fun m2 a w => ∃ (a0 : Nat), r21_lightWords_L1 n t_ a1 m2 a0 = some r ∧ St (cx f76 M w0) [(1, vP b2 0), (4, vI (((a0 : Nat) : Int)))] [(1000, Ob.box b2 B 38)] F a w) (fun m2 => m2) n ⟨(0), hg, (s.sb q q q)⟩ ?_
  clear s a; rintro m2 a w ⟨a0, hg, s⟩
  rcases m2 with _ | m2
  ·rw [r21_lightWords_L1] at hg; cases hg
  rw [r21_lightWords_L1] at hg
  refine S s<|sw<|vw<|mw q<|yw q (bF 5 · u38 q)<|yw q (lB 1000 · u35 q)<|yw q (lS · q u35)<|yw q (y_lssN (i := a0) (j := ((t_.LexRules).length)) · q q)<|nw fun a s => c_dec s q (fun J0 => ?_) (fun J0 => ?_)
  ·replace hg := br_t hg J0
   have a6 := SlR.mx (s.ft 105 q)
   apply wp_skip
   apply pN
   apply wQ
   obtain ⟨b1, hg, Z1⟩ := jn_some hg
   refine c_post (fun a w => b1 = some r ∧ St (cx f76 M w0) [(1, vP b2 0), (4, vI (((a0 : Nat) : Int)))] [(1000, Ob.box b2 B 38)] F a w) ?_ ?_
   ·apply wp_block
    apply wQ
    apply wQ
    obtain ⟨R3, hg, a2⟩ := jn_some hg
    refine c_post (fun a w => ∃ (S0 : Bool), R3 S0 = some r ∧ St (cx f76 M w0) [(1, vP b2 0), (4, vI (((a0 : Nat) : Int))), (57, .bool (S0))] [(1000, Ob.box b2 B 38)] F a w) ?_ ?_
    ·obtain ⟨V0, h0, hg⟩ := bind_some hg
     rcases Decidable.em ((20 : Nat) < ((V0.Affix.Pairs).length)) with k0 | k0
     ·have Q0 := decide_eq_true k0
      replace hg := br_t hg k0
      refine S s<|lw<|yw q (bF 5 · u38 q)<|yw q (lB 1000 · u35 q)<|mw q fun a s => ?_
      obtain ⟨M6, L1, j2, y2, P5, w1, h1⟩ := SlR.elemX (s.ft 105 q) h0
      refine S s<|yw q (eL 8 a0 · u35 L1 (lt_of_get h0) q)<|yw q (pF 0 · u94 q)<|yw q (pF 1 · u92 q) fun a s => ?_
      obtain ⟨n4, h5, o4, i5, p4, j5, q4, k5, rfl, h3, m6, n6, i3, j3, l3⟩ := RLexDecl.open w1
      refine S s<|nsw 134 h3<|nsw 135 i3<|nsw 136 j3<|nsw 137 l3<|yw q (lP · j2 y2 (h1 1 _ q) u90 q)<|yw q (lS · q u90)<|yw q (fun s => yl_b (y_gtrN (i := ((V0.Affix.Pairs).length)) (j := 20) s q q) Q0)<|mw q<|gw q<|gw q<|gw q<|gw q<|gw q<|gw q<|gw q<|gw q<|tw_ q<|nw fun a s => ?_
      exact ⟨(true), hg, (s.sb q q q)⟩
     have Q0 := decide_eq_false k0
     replace hg := br_f hg k0
     obtain ⟨V3, P3, hg⟩ := bind_some hg
     refine S s<|lw<|yw q (bF 5 · u38 q)<|yw q (lB 1000 · u35 q)<|mw q fun a s => ?_
     obtain ⟨O6, M1, k2, z2, Q5, x1, i1⟩ := SlR.elemX (s.ft 105 q) h0
     refine S s<|yw q (eL 8 a0 · u35 M1 (lt_of_get h0) q)<|yw q (pF 0 · u94 q)<|yw q (pF 1 · u92 q) fun a s => ?_
     obtain ⟨r4, l5, s4, m5, t4, n5, v4, o5, rfl, n3, o6, p6, o3, p3, q3⟩ := RLexDecl.open x1
     refine S s<|nsw 142 n3<|nsw 143 o3<|nsw 144 p3<|nsw 145 q3<|yw q (lP · k2 z2 (i1 1 _ q) u90 q)<|yw q (lS · q u90)<|yw q (fun s => yl_b (y_gtrN (i := ((V0.Affix.Pairs).length)) (j := 20) s q q) Q0)<|mw q<|zw q (bF 5 · u38 q)<|zw q (lB 1000 · u35 q)<|hw q fun a s => ?_
     obtain ⟨P6, O1, l2, B2, R5, y1, j1⟩ := SlR.elemX (s.ft 105 q) h0
     refine S s<|zw q (eL 8 a0 · u35 O1 (lt_of_get h0) q)<|zw q (pF 2 · u94 q) fun a s => ?_
     obtain ⟨w4, p5, x4, q5, y4, r5, z4, s5, rfl, r3, q6, r6, s3, t3, v3⟩ := RLexDecl.open y1
     refine S s<|nsw 146 r3<|nsw 147 s3<|nsw 148 t3<|nsw 149 v3<|zw q (lD [_, _, _, _, _, _] 2 · l2 B2 j1 u62 q) fun a s => ?_
     refine gV s q func109 (c_r21_lightDef n _ _ s.lt _ _ _ _ _ _ _ (by omega) (by omega) (s.ft 147 q) (s.ft 148 q) (s.ft 149 q) _ P3) fun a w hK s => ?_
     refine S s<|zw q (y_not · q)<|fw q<|nw fun a s => ?_
     exact ⟨(!(V3)), hg, (s.sb q q q)⟩
    clear s a; rintro a w ⟨S0, hg, s⟩
    subst a2
    refine c_cond s q (fun L0 => ?_) (fun L0 => ?_)
    ·replace hg := br_t hg L0
     refine S s<|vw<|aw q<|nw fun a s => ?_
     apply wp_ret
     refine p_thenR ?_
     refine p_inR ?_
     refine p_thenR ?_
     refine p_thenR ?_
     refine p_inR ?_
     refine p_thenR ?_
     obtain rfl := si hg
     exact fin1 (fn := Tryz.f76) s q (r_tmp s q) q
    replace hg := br_n hg L0
    refine S s<|kw<|pw<|vw<|aw q<|nw<|bw fun a s => ?_
    refine c_loop (σ := Nat) (fun m3 a w => ∃ (c0 : Nat), r21_lightWords_L2 n t_ a0 b1 m3 c0 = some r ∧ St (cx f76 M w0) [(1, vP b2 0), (4, vI (((a0 : Nat) : Int))), (5, vI (((c0 : Nat) : Int)))] [(1000, Ob.box b2 B 38)] F a w) (fun m3 => m3) n ⟨(0), hg, (s.sb q q q)⟩ ?_
    clear s a; rintro m3 a w ⟨c0, hg, s⟩
    rcases m3 with _ | m3
    ·rw [r21_lightWords_L2] at hg; cases hg
    rw [r21_lightWords_L2] at hg
    obtain ⟨X3, d0, hg⟩ := bind_some hg
    refine S s<|sw<|sw<|lw<|mw q<|yw q (bF 5 · u38 q)<|yw q (lB 1000 · u35 q)<|mw q fun a s => ?_
    obtain ⟨Q6, P1, n2, C2, S5, z1, k1⟩ := SlR.elemX (s.ft 105 q) d0
    refine S s<|yw q (eL 8 a0 · u35 P1 (lt_of_get d0) q)<|yw q (pF 0 · u94 q)<|yw q (pF 1 · u92 q) fun a s => ?_
    obtain ⟨B4, t5, C4, u5, D4, v5, E4, w5, rfl, w3, s6, t6, x3, y3, z3⟩ := RLexDecl.open z1
    refine S s<|nsw 154 w3<|nsw 155 x3<|nsw 156 y3<|nsw 157 z3<|yw q (lP · n2 C2 (k1 1 _ q) u90 q)<|yw q (lS · q u90)<|yw q (y_lssN (i := c0) (j := ((X3.Affix.Pairs).length)) · q q)<|nw fun a s => c_dec s q (fun M0 => ?_) (fun M0 => ?_)
    ·replace hg := br_t hg M0
     have c6 := SlR.mx (s.ft 154 q)
     refine S s<|kw<|pw<|sw<|bw<|sw fun a s => ?_
     obtain ⟨S3, hg, c2⟩ := jn_some hg
     refine c_post (fun a w => ∃ (T0 : Bool), S3 T0 = some r ∧ St (cx f76 M w0) [(1, vP b2 0), (4, vI (((a0 : Nat) : Int))), (5, vI (((c0 : Nat) : Int))), (97, .bool (T0))] [(1000, Ob.box b2 B 38)] F a w) ?_ ?_
     ·obtain ⟨m0, i0, hg⟩ := bind_some hg
      rcases Decidable.em ((100 : Nat) < ((m0.Old).length)) with l0 | l0
      ·have R0 := decide_eq_true l0
       replace hg := br_t hg l0
       refine S s<|lw<|yw q (bF 5 · u38 q)<|yw q (lB 1000 · u35 q)<|mw q fun a s => ?_
       obtain ⟨R6, Q1, o2, D2, T5, B1, l1⟩ := SlR.elemX (s.ft 105 q) d0
       refine S s<|yw q (eL 8 a0 · u35 Q1 (lt_of_get d0) q)<|yw q (pF 0 · u94 q)<|yw q (pF 1 · u92 q) fun a s => ?_
       obtain ⟨F4, x5, G4, y5, H4, z5, I4, B5, rfl, B3, u6, v6, C3, D3, E3⟩ := RLexDecl.open B1
       refine S s<|nsw 162 B3<|nsw 163 C3<|nsw 164 D3<|nsw 165 E3<|yw q (lP · o2 D2 (l1 1 _ q) u90 q)<|mw q fun a s => ?_
       obtain ⟨S6, R1, p2, E2, U5, C1, n1⟩ := SlR.elemX (s.ft 162 q) i0
       refine S s<|yw q (eL 2 c0 · u90 R1 (lt_of_get i0) q)<|yw q (pF 0 · u144 q) fun a s => ?_
       obtain ⟨rfl, w6, x6⟩ := RChange.open C1
       refine S s<|yw q (lP · p2 E2 (n1 0 _ q) u9 q)<|yw q (y_lenStrN · q u9)<|yw q (fun s => yl_b (y_gtrN (i := ((m0.Old).length)) (j := 100) s q q) R0)<|mw q<|gw q<|gw q<|gw q<|gw q<|gw q<|gw q<|gw q<|gw q<|gw q<|gw q<|gw q<|gw q<|gw q<|tw_ q<|nw fun a s => ?_
       exact ⟨(true), hg, (s.sb q q q)⟩
      have R0 := decide_eq_false l0
      replace hg := br_f hg l0
      refine S s<|lw<|yw q (bF 5 · u38 q)<|yw q (lB 1000 · u35 q)<|mw q fun a s => ?_
      obtain ⟨T6, S1, q2, F2, V5, D1, o1⟩ := SlR.elemX (s.ft 105 q) d0
      refine S s<|yw q (eL 8 a0 · u35 S1 (lt_of_get d0) q)<|yw q (pF 0 · u94 q)<|yw q (pF 1 · u92 q) fun a s => ?_
      obtain ⟨J4, C5, K4, D5, L4, E5, M4, F5, rfl, F3, y6, z6, G3, H3, I3⟩ := RLexDecl.open D1
      refine S s<|nsw 170 F3<|nsw 171 G3<|nsw 172 H3<|nsw 173 I3<|yw q (lP · q2 F2 (o1 1 _ q) u90 q)<|mw q fun a s => ?_
      obtain ⟨U6, T1, r2, G2, X5, E1, p1⟩ := SlR.elemX (s.ft 170 q) i0
      refine S s<|yw q (eL 2 c0 · u90 T1 (lt_of_get i0) q)<|yw q (pF 0 · u144 q) fun a s => ?_
      obtain ⟨rfl, B6, C6⟩ := RChange.open E1
      refine S s<|yw q (lP · r2 G2 (p1 0 _ q) u9 q)<|yw q (y_lenStrN · q u9)<|yw q (fun s => yl_b (y_gtrN (i := ((m0.Old).length)) (j := 100) s q q) R0)<|mw q<|zw q (bF 5 · u38 q)<|zw q (lB 1000 · u35 q)<|hw q fun a s => ?_
      obtain ⟨V6, U1, s2, H2, Y5, F1, q1⟩ := SlR.elemX (s.ft 105 q) d0
      refine S s<|zw q (eL 8 a0 · u35 U1 (lt_of_get d0) q)<|zw q (pF 0 · u94 q)<|zw q (pF 1 · u92 q) fun a s => ?_
      obtain ⟨O4, G5, P4, H5, Q4, I5, R4, J5, rfl, J3, D6, E6, K3, L3, M3⟩ := RLexDecl.open F1
      refine S s<|nsw 174 J3<|nsw 175 K3<|nsw 176 L3<|nsw 177 M3<|zw q (lP · s2 H2 (q1 1 _ q) u90 q)<|hw q fun a s => ?_
      obtain ⟨X6, V1, t2, I2, Z5, G1, r1⟩ := SlR.elemX (s.ft 174 q) i0
      refine S s<|zw q (eL 2 c0 · u90 V1 (lt_of_get i0) q)<|zw q (pF 1 · u144 q) fun a s => ?_
      obtain ⟨rfl, F6, G6⟩ := RChange.open G1
      refine S s<|zw q (lP · t2 I2 (r1 1 _ q) u9 q)<|zw q (y_lenStrN · q u9)<|zw q (y_gtrN (i := ((m0.New).length)) (j := 100) · q q)<|fw q<|nw fun a s => ?_
      exact ⟨(decide ((100 : Nat) < ((m0.New).length))), hg, (s.sb q q q)⟩
     clear s a; rintro a w ⟨T0, hg, s⟩
     subst c2
     refine c_cond s q (fun O0 => ?_) (fun O0 => ?_)
     ·replace hg := br_t hg O0
      refine S s<|vw<|aw q<|nw fun a s => ?_
      apply wp_ret
      refine p_inR ?_
      refine p_thenR ?_
      refine p_thenR ?_
      refine p_inR ?_
      refine p_inR ?_
      refine p_thenR ?_
      refine p_thenR ?_
      refine p_inR ?_
      refine p_thenR ?_
      obtain rfl := si hg
      exact fin1 (fn := Tryz.f76) s q (r_tmp s q) q
     replace hg := br_n hg O0
     apply wp_skip
     refine p_inN ?_
     refine S s<|pw<|lw<|mw q<|yw q (y_addN (i := c0) (j := 1) · q q (in64.2 (by omega)))<|aw q<|nw fun a s => ?_
     exact ⟨m3, Nat.lt_succ_self _, ⟨(c0 + 1), hg, (s.sb q q q)⟩⟩
    replace hg := br_f hg M0
    apply wp_exit
    refine p_then ?_
    refine p_then ?_
    refine p_in ?_
    refine p_inN ?_
    apply pN
    exact ⟨hg, (s.sb q q q)⟩
   clear s a; rintro a w ⟨hg, s⟩
   subst Z1
   refine S s<|lw<|mw q<|yw q (y_addN (i := a0) (j := 1) · q q (in64.2 (by omega)))<|aw q<|nw fun a s => ?_
   exact ⟨m2, Nat.lt_succ_self _, ⟨(a0 + 1), hg, (s.sb q q q)⟩⟩
  replace hg := br_f hg J0
  apply wp_exit
  refine p_then ?_
  refine p_then ?_
  refine p_in ?_
  apply pN
  exact ⟨hg, (s.sb q q q)⟩
 clear s a; rintro a w ⟨hg, s⟩
 subst Y1
 refine S s<|sw<|vw<|aw q<|nw<|bw fun a s => ?_
 refine c_loop (σ := Nat) (fun m4 a w => ∃ (e0 : Nat), r21_lightWords_L3 n t_ m4 e0 = some r ∧ St (cx f76 M w0) [(1, vP b2 0), (6, vI (((e0 : Nat) : Int)))] [(1000, Ob.box b2 B 38)] F a w) (fun m4 => m4) n ⟨(0), hg, (s.sb q q q)⟩ ?_
 clear s a; rintro m4 a w ⟨e0, hg, s⟩
 rcases m4 with _ | m4
 ·rw [r21_lightWords_L3] at hg; cases hg
 rw [r21_lightWords_L3] at hg
 refine S s<|sw<|vw<|mw q<|yw q (bF 8 · u38 q)<|yw q (lB 1000 · u36 q)<|yw q (lS · q u36)<|yw q (y_lssN (i := e0) (j := ((t_.Checks).length)) · q q)<|nw fun a s => c_dec s q (fun P0 => ?_) (fun P0 => ?_)
 ·replace hg := br_t hg P0
  have d6 := SlR.mx (s.ft 108 q)
  obtain ⟨a7, Z0, hg⟩ := bind_some hg
  obtain ⟨Y6, Q3, hg⟩ := bind_some hg
  refine S s<|kw<|pw<|sw<|bw<|sw<|lw<|yw q (bF 8 · u38 q)<|yw q (lB 1000 · u36 q)<|mw q fun a s => ?_
  obtain ⟨I6, H1, e2, u2, K5, s1, c1⟩ := SlR.elemX (s.ft 108 q) Z0
  refine qq s q (eL 1 e0 s u36 H1 (lt_of_get Z0) q) fun a s => ?_
  obtain ⟨Y3, H6, S4, rfl, X0⟩ := s1
  obtain rfl := X0.len
  refine S s<|nsw 179 X0<|yw q (lP · e2 u2 (c1 0 _ q) u25 q) fun a s => ?_
  refine lV s q func73 (c_r21_lightNames n _ _ s.lt _ _ _ (s.ft 179 q) _ _ Q3) fun a w hK s => ?_
  refine S s<|yw q (y_not · q)<|nw fun a s => c_cond s q (fun H0 => ?_) (fun H0 => ?_)
  ·replace hg := br_t hg H0
   refine S s<|vw<|aw q<|nw fun a s => ?_
   apply wp_ret
   refine p_inR ?_
   refine p_thenR ?_
   refine p_thenR ?_
   refine p_inR ?_
   refine p_thenR ?_
   obtain rfl := si hg
   exact fin1 (fn := Tryz.f76) s q (r_tmp s q) q
  replace hg := br_n hg H0
  apply wp_skip
  refine p_inN ?_
  refine S s<|pw<|lw<|mw q<|yw q (y_addN (i := e0) (j := 1) · q q (in64.2 (by omega)))<|aw q<|nw fun a s => ?_
  exact ⟨m4, Nat.lt_succ_self _, ⟨(e0 + 1), hg, (s.sb q q q)⟩⟩
 replace hg := br_f hg P0
 apply wp_exit
 refine p_then ?_
 refine p_then ?_
 refine p_in ?_
 refine S s<|pw<|vw<|aw q<|nw fun a s => ?_
 apply wp_ret
 obtain rfl := si hg
 exact fin1 (fn := Tryz.f76) s q (r_tmp s q) q
set_option maxHeartbeats 1000000 in
theorem c_r21_LightModule (n : Nat) (M : Bs) (w0 : World) (hM : ∀ b, M b → b < w0.heap.size) (m_ : Module) (r0 : Option Addr) (C0 : Nat) (s0 : Option Addr) (D0 : Nat) (t0 : Option Addr) (E0 : Nat) (u0 : Option Addr) (F0 : Nat) (v0 : Option Addr) (G0 : Nat) (x0 : Option Addr) (H0 : Nat) (y0 : Option Addr) (I0 : Nat) (z0 : Option Addr) (J0 : Nat) (q0 : Option Addr) (B0 : Nat) (d1 : (m_.Name).length ≤ 9223372036854775807) (O0 : sR Rep.str M w0 r0 C0 m_.Imports) (P0 : sR RTypeDecl M w0 s0 D0 m_.Types) (Q0 : sR RDef M w0 t0 E0 m_.Templates) (R0 : sR REntryDecl M w0 u0 F0 m_.Entries) (S0 : sR RLexDecl M w0 v0 G0 m_.LexRules) (T0 : sR RDef M w0 x0 H0 m_.Rules) (U0 : sR RDef M w0 y0 I0 m_.Roots) (V0 : sR (Rep.list Rep.str) M w0 z0 J0 m_.Checks) (M0 : sR Rep.str M w0 q0 B0 m_.Drops) (r : Bool) (hg : r21_LightModule n m_ = some r) :
    Calls Tryz.prog 51 [.agg #[vT m_.Name, sl r0 m_.Imports C0, sl s0 m_.Types D0, sl t0 m_.Templates E0, sl u0 m_.Entries F0, sl v0 m_.LexRules G0, sl x0 m_.Rules H0, sl y0 m_.Roots I0, sl z0 m_.Checks J0, sl q0 m_.Drops B0]].toArray w0 (Ret noB w0 fun v w => v = .bool (r)) := by
 unfold r21_LightModule at hg
 refine enter M noB func51 q q hM ?_
 intro a s
 refine S s<|esw 101 O0<|esw 102 P0<|esw 103 Q0<|esw 104 R0<|esw 105 S0<|esw 106 T0<|esw 107 U0<|esw 108 V0<|esw 109 M0<|vw fun a s => ?_
 refine l_seq q (l_box (zs := [vT m_.Name, sl r0 m_.Imports C0, sl s0 m_.Types D0, sl t0 m_.Templates E0, sl u0 m_.Entries F0, sl v0 m_.LexRules G0, sl x0 m_.Rules H0, sl y0 m_.Roots I0, sl z0 m_.Checks J0, sl q0 m_.Drops B0]) s 1000 q q q q fun b2 a w hb hK s => ?_)
 refine S s<|aw q<|nw<|sw fun a s => ?_
 rcases Decidable.em (((m_.Name).length) ≤ 100) with m0 | m0
 ·have b0 := decide_eq_true m0
  replace hg := br_t hg m0
  obtain ⟨r4, e0, hg⟩ := bind_some hg
  rcases Decidable.em (r4 ≤ 300) with o0 | o0
  ·have d0 := decide_eq_true o0
   replace hg := br_t hg o0
   obtain ⟨r8, h0, hg⟩ := bind_some hg
   rcases Bool.eq_false_or_eq_true (r8) with a0 | a0
   ·replace hg := br_t hg a0
    obtain ⟨Y0, j0, hg⟩ := bind_some hg
    rcases Bool.eq_false_or_eq_true (Y0) with c0 | c0
    ·replace hg := br_t hg c0
     obtain ⟨Z0, l0, hg⟩ := bind_some hg
     rcases Bool.eq_false_or_eq_true (Z0) with g0 | g0
     ·replace hg := br_t hg g0
      obtain ⟨a1, p0, hg⟩ := bind_some hg
      rcases Bool.eq_false_or_eq_true (a1) with i0 | i0
      ·replace hg := br_t hg i0
       obtain ⟨b1, K0, hg⟩ := bind_some hg
       rcases Bool.eq_false_or_eq_true (b1) with k0 | k0
       ·replace hg := br_t hg k0
        obtain ⟨c1, L0, hg⟩ := bind_some hg
        rcases Bool.eq_false_or_eq_true (c1) with n0 | n0
        ·replace hg := br_t hg n0
         obtain ⟨e1, X0, hg⟩ := bind_some hg
         refine S s<|lw<|yw q (bF 0 · u38 q)<|yw q (lB 1000 · u9 q)<|yw q (y_lenStrN · q u9)<|yw q (fun s => yl_b (y_leqN (i := ((m_.Name).length)) (j := 100) s q q) b0)<|mw q<|zw q (y_loadAll (kk := 1000) · q q u38 q q) fun a s => ?_
         refine gV s q func52 (c_r21_count n _ _ s.lt _ _ _ _ _ _ _ _ _ _ _ _ _ _ _ _ _ _ _ (by omega) (s.ft 101 q) (s.ft 102 q) (s.ft 103 q) (s.ft 104 q) (s.ft 105 q) (s.ft 106 q) (s.ft 107 q) (s.ft 108 q) (s.ft 109 q) _ e0) fun a w hK s => ?_
         refine S s<|zw q (fun s => yl_b (y_leq s q q) d0)<|tw_ q<|mw q<|zw q (bF 1 · u38 q)<|zw q (lB 1000 · u25 q) fun a s => ?_
         refine gC s q func73 (c_r21_lightNames n _ _ s.lt _ _ _ (s.ft 101 q) _ _ h0) fun h1 a w hK hp s => ?_
         obtain rfl := hp.trans (congrArg Value.bool a0)
         refine S s<|tw_ q<|mw q<|zw q (bF 9 · u38 q)<|zw q (lB 1000 · u25 q) fun a s => ?_
         refine gC s q func73 (c_r21_lightNames n _ _ s.lt _ _ _ (s.ft 109 q) _ _ j0) fun i1 a w hK hp s => ?_
         obtain rfl := hp.trans (congrArg Value.bool c0)
         refine S s<|tw_ q<|mw q<|zw q (bF 2 · u38 q)<|zw q (lB 1000 · u32 q) fun a s => ?_
         refine gC s q func74 (c_r21_lightTypes n _ _ s.lt _ _ _ (s.ft 102 q) _ l0) fun j1 a w hK hp s => ?_
         obtain rfl := hp.trans (congrArg Value.bool g0)
         refine S s<|tw_ q<|mw q<|zw q (bF 3 · u38 q)<|zw q (lB 1000 · u33 q) fun a s => ?_
         refine gC s q func75 (c_r21_lightDefs n _ _ s.lt _ _ _ (s.ft 103 q) _ p0) fun k1 a w hK hp s => ?_
         obtain rfl := hp.trans (congrArg Value.bool i0)
         refine S s<|tw_ q<|mw q<|zw q (bF 6 · u38 q)<|zw q (lB 1000 · u33 q) fun a s => ?_
         refine gC s q func75 (c_r21_lightDefs n _ _ s.lt _ _ _ (s.ft 106 q) _ K0) fun l1 a w hK hp s => ?_
         obtain rfl := hp.trans (congrArg Value.bool k0)
         refine S s<|tw_ q<|mw q<|zw q (bF 7 · u38 q)<|zw q (lB 1000 · u33 q) fun a s => ?_
         refine gC s q func75 (c_r21_lightDefs n _ _ s.lt _ _ _ (s.ft 107 q) _ L0) fun m1 a w hK hp s => ?_
         obtain rfl := hp.trans (congrArg Value.bool n0)
         refine S s<|tw_ q<|mw q<|zw q (y_loadAll (kk := 1000) · q q u38 q q) fun a s => ?_
         refine gV s q func76 (c_r21_lightWords n _ _ s.lt _ _ _ _ _ _ _ _ _ _ _ _ _ _ _ _ _ _ _ (by omega) (s.ft 101 q) (s.ft 102 q) (s.ft 103 q) (s.ft 104 q) (s.ft 105 q) (s.ft 106 q) (s.ft 107 q) (s.ft 108 q) (s.ft 109 q) _ X0) fun a w hK s => ?_
         refine S s<|tw_ q<|aw q<|nw fun a s => ?_
         apply wp_ret
         obtain rfl := si hg
         exact fin1 (fn := Tryz.f51) s q (r_tmp s q) q
        replace hg := br_n hg n0
        refine S s<|lw<|yw q (bF 0 · u38 q)<|yw q (lB 1000 · u9 q)<|yw q (y_lenStrN · q u9)<|yw q (fun s => yl_b (y_leqN (i := ((m_.Name).length)) (j := 100) s q q) b0)<|mw q<|zw q (y_loadAll (kk := 1000) · q q u38 q q) fun a s => ?_
        refine gV s q func52 (c_r21_count n _ _ s.lt _ _ _ _ _ _ _ _ _ _ _ _ _ _ _ _ _ _ _ (by omega) (s.ft 101 q) (s.ft 102 q) (s.ft 103 q) (s.ft 104 q) (s.ft 105 q) (s.ft 106 q) (s.ft 107 q) (s.ft 108 q) (s.ft 109 q) _ e0) fun a w hK s => ?_
        refine S s<|zw q (fun s => yl_b (y_leq s q q) d0)<|tw_ q<|mw q<|zw q (bF 1 · u38 q)<|zw q (lB 1000 · u25 q) fun a s => ?_
        refine gC s q func73 (c_r21_lightNames n _ _ s.lt _ _ _ (s.ft 101 q) _ _ h0) fun n1 a w hK hp s => ?_
        obtain rfl := hp.trans (congrArg Value.bool a0)
        refine S s<|tw_ q<|mw q<|zw q (bF 9 · u38 q)<|zw q (lB 1000 · u25 q) fun a s => ?_
        refine gC s q func73 (c_r21_lightNames n _ _ s.lt _ _ _ (s.ft 109 q) _ _ j0) fun o1 a w hK hp s => ?_
        obtain rfl := hp.trans (congrArg Value.bool c0)
        refine S s<|tw_ q<|mw q<|zw q (bF 2 · u38 q)<|zw q (lB 1000 · u32 q) fun a s => ?_
        refine gC s q func74 (c_r21_lightTypes n _ _ s.lt _ _ _ (s.ft 102 q) _ l0) fun p1 a w hK hp s => ?_
        obtain rfl := hp.trans (congrArg Value.bool g0)
        refine S s<|tw_ q<|mw q<|zw q (bF 3 · u38 q)<|zw q (lB 1000 · u33 q) fun a s => ?_
        refine gC s q func75 (c_r21_lightDefs n _ _ s.lt _ _ _ (s.ft 103 q) _ p0) fun q1 a w hK hp s => ?_
        obtain rfl := hp.trans (congrArg Value.bool i0)
        refine S s<|tw_ q<|mw q<|zw q (bF 6 · u38 q)<|zw q (lB 1000 · u33 q) fun a s => ?_
        refine gC s q func75 (c_r21_lightDefs n _ _ s.lt _ _ _ (s.ft 106 q) _ K0) fun r1 a w hK hp s => ?_
        obtain rfl := hp.trans (congrArg Value.bool k0)
        refine S s<|tw_ q<|mw q<|zw q (bF 7 · u38 q)<|zw q (lB 1000 · u33 q) fun a s => ?_
        refine gC s q func75 (c_r21_lightDefs n _ _ s.lt _ _ _ (s.ft 107 q) _ L0) fun s1 a w hK hp s => ?_
        obtain rfl := hp.trans (congrArg Value.bool n0)
        refine S s<|tw_ q<|mw q<|gw q<|gw q<|fw q<|aw q<|nw fun a s => ?_
        apply wp_ret
        obtain rfl := si hg
        exact fin1 (fn := Tryz.f51) s q (r_tmp s q) q
       replace hg := br_n hg k0
       refine S s<|lw<|yw q (bF 0 · u38 q)<|yw q (lB 1000 · u9 q)<|yw q (y_lenStrN · q u9)<|yw q (fun s => yl_b (y_leqN (i := ((m_.Name).length)) (j := 100) s q q) b0)<|mw q<|zw q (y_loadAll (kk := 1000) · q q u38 q q) fun a s => ?_
       refine gV s q func52 (c_r21_count n _ _ s.lt _ _ _ _ _ _ _ _ _ _ _ _ _ _ _ _ _ _ _ (by omega) (s.ft 101 q) (s.ft 102 q) (s.ft 103 q) (s.ft 104 q) (s.ft 105 q) (s.ft 106 q) (s.ft 107 q) (s.ft 108 q) (s.ft 109 q) _ e0) fun a w hK s => ?_
       refine S s<|zw q (fun s => yl_b (y_leq s q q) d0)<|tw_ q<|mw q<|zw q (bF 1 · u38 q)<|zw q (lB 1000 · u25 q) fun a s => ?_
       refine gC s q func73 (c_r21_lightNames n _ _ s.lt _ _ _ (s.ft 101 q) _ _ h0) fun t1 a w hK hp s => ?_
       obtain rfl := hp.trans (congrArg Value.bool a0)
       refine S s<|tw_ q<|mw q<|zw q (bF 9 · u38 q)<|zw q (lB 1000 · u25 q) fun a s => ?_
       refine gC s q func73 (c_r21_lightNames n _ _ s.lt _ _ _ (s.ft 109 q) _ _ j0) fun u1 a w hK hp s => ?_
       obtain rfl := hp.trans (congrArg Value.bool c0)
       refine S s<|tw_ q<|mw q<|zw q (bF 2 · u38 q)<|zw q (lB 1000 · u32 q) fun a s => ?_
       refine gC s q func74 (c_r21_lightTypes n _ _ s.lt _ _ _ (s.ft 102 q) _ l0) fun v1 a w hK hp s => ?_
       obtain rfl := hp.trans (congrArg Value.bool g0)
       refine S s<|tw_ q<|mw q<|zw q (bF 3 · u38 q)<|zw q (lB 1000 · u33 q) fun a s => ?_
       refine gC s q func75 (c_r21_lightDefs n _ _ s.lt _ _ _ (s.ft 103 q) _ p0) fun w1 a w hK hp s => ?_
       obtain rfl := hp.trans (congrArg Value.bool i0)
       refine S s<|tw_ q<|mw q<|zw q (bF 6 · u38 q)<|zw q (lB 1000 · u33 q) fun a s => ?_
       refine gC s q func75 (c_r21_lightDefs n _ _ s.lt _ _ _ (s.ft 106 q) _ K0) fun x1 a w hK hp s => ?_
       obtain rfl := hp.trans (congrArg Value.bool k0)
       refine S s<|tw_ q<|mw q<|gw q<|gw q<|gw q<|fw q<|mw q<|gw q<|gw q<|fw q<|aw q<|nw fun a s => ?_
       apply wp_ret
       obtain rfl := si hg
       exact fin1 (fn := Tryz.f51) s q (r_tmp s q) q
      replace hg := br_n hg i0
      refine S s<|lw<|yw q (bF 0 · u38 q)<|yw q (lB 1000 · u9 q)<|yw q (y_lenStrN · q u9)<|yw q (fun s => yl_b (y_leqN (i := ((m_.Name).length)) (j := 100) s q q) b0)<|mw q<|zw q (y_loadAll (kk := 1000) · q q u38 q q) fun a s => ?_
      refine gV s q func52 (c_r21_count n _ _ s.lt _ _ _ _ _ _ _ _ _ _ _ _ _ _ _ _ _ _ _ (by omega) (s.ft 101 q) (s.ft 102 q) (s.ft 103 q) (s.ft 104 q) (s.ft 105 q) (s.ft 106 q) (s.ft 107 q) (s.ft 108 q) (s.ft 109 q) _ e0) fun a w hK s => ?_
      refine S s<|zw q (fun s => yl_b (y_leq s q q) d0)<|tw_ q<|mw q<|zw q (bF 1 · u38 q)<|zw q (lB 1000 · u25 q) fun a s => ?_
      refine gC s q func73 (c_r21_lightNames n _ _ s.lt _ _ _ (s.ft 101 q) _ _ h0) fun y1 a w hK hp s => ?_
      obtain rfl := hp.trans (congrArg Value.bool a0)
      refine S s<|tw_ q<|mw q<|zw q (bF 9 · u38 q)<|zw q (lB 1000 · u25 q) fun a s => ?_
      refine gC s q func73 (c_r21_lightNames n _ _ s.lt _ _ _ (s.ft 109 q) _ _ j0) fun z1 a w hK hp s => ?_
      obtain rfl := hp.trans (congrArg Value.bool c0)
      refine S s<|tw_ q<|mw q<|zw q (bF 2 · u38 q)<|zw q (lB 1000 · u32 q) fun a s => ?_
      refine gC s q func74 (c_r21_lightTypes n _ _ s.lt _ _ _ (s.ft 102 q) _ l0) fun B1 a w hK hp s => ?_
      obtain rfl := hp.trans (congrArg Value.bool g0)
      refine S s<|tw_ q<|mw q<|zw q (bF 3 · u38 q)<|zw q (lB 1000 · u33 q) fun a s => ?_
      refine gC s q func75 (c_r21_lightDefs n _ _ s.lt _ _ _ (s.ft 103 q) _ p0) fun C1 a w hK hp s => ?_
      obtain rfl := hp.trans (congrArg Value.bool i0)
      refine S s<|tw_ q<|mw q<|gw q<|gw q<|gw q<|fw q<|mw q<|gw q<|gw q<|gw q<|fw q<|mw q<|gw q<|gw q<|fw q<|aw q<|nw fun a s => ?_
      apply wp_ret
      obtain rfl := si hg
      exact fin1 (fn := Tryz.f51) s q (r_tmp s q) q
     replace hg := br_n hg g0
     refine S s<|lw<|yw q (bF 0 · u38 q)<|yw q (lB 1000 · u9 q)<|yw q (y_lenStrN · q u9)<|yw q (fun s => yl_b (y_leqN (i := ((m_.Name).length)) (j := 100) s q q) b0)<|mw q<|zw q (y_loadAll (kk := 1000) · q q u38 q q) fun a s => ?_
     refine gV s q func52 (c_r21_count n _ _ s.lt _ _ _ _ _ _ _ _ _ _ _ _ _ _ _ _ _ _ _ (by omega) (s.ft 101 q) (s.ft 102 q) (s.ft 103 q) (s.ft 104 q) (s.ft 105 q) (s.ft 106 q) (s.ft 107 q) (s.ft 108 q) (s.ft 109 q) _ e0) fun a w hK s => ?_
     refine S s<|zw q (fun s => yl_b (y_leq s q q) d0)<|tw_ q<|mw q<|zw q (bF 1 · u38 q)<|zw q (lB 1000 · u25 q) fun a s => ?_
     refine gC s q func73 (c_r21_lightNames n _ _ s.lt _ _ _ (s.ft 101 q) _ _ h0) fun D1 a w hK hp s => ?_
     obtain rfl := hp.trans (congrArg Value.bool a0)
     refine S s<|tw_ q<|mw q<|zw q (bF 9 · u38 q)<|zw q (lB 1000 · u25 q) fun a s => ?_
     refine gC s q func73 (c_r21_lightNames n _ _ s.lt _ _ _ (s.ft 109 q) _ _ j0) fun E1 a w hK hp s => ?_
     obtain rfl := hp.trans (congrArg Value.bool c0)
     refine S s<|tw_ q<|mw q<|zw q (bF 2 · u38 q)<|zw q (lB 1000 · u32 q) fun a s => ?_
     refine gC s q func74 (c_r21_lightTypes n _ _ s.lt _ _ _ (s.ft 102 q) _ l0) fun F1 a w hK hp s => ?_
     obtain rfl := hp.trans (congrArg Value.bool g0)
     refine S s<|tw_ q<|mw q<|gw q<|gw q<|gw q<|fw q<|mw q<|gw q<|gw q<|gw q<|fw q<|mw q<|gw q<|gw q<|gw q<|fw q<|mw q<|gw q<|gw q<|fw q<|aw q<|nw fun a s => ?_
     apply wp_ret
     obtain rfl := si hg
     exact fin1 (fn := Tryz.f51) s q (r_tmp s q) q
    replace hg := br_n hg c0
    refine S s<|lw<|yw q (bF 0 · u38 q)<|yw q (lB 1000 · u9 q)<|yw q (y_lenStrN · q u9)<|yw q (fun s => yl_b (y_leqN (i := ((m_.Name).length)) (j := 100) s q q) b0)<|mw q<|zw q (y_loadAll (kk := 1000) · q q u38 q q) fun a s => ?_
    refine gV s q func52 (c_r21_count n _ _ s.lt _ _ _ _ _ _ _ _ _ _ _ _ _ _ _ _ _ _ _ (by omega) (s.ft 101 q) (s.ft 102 q) (s.ft 103 q) (s.ft 104 q) (s.ft 105 q) (s.ft 106 q) (s.ft 107 q) (s.ft 108 q) (s.ft 109 q) _ e0) fun a w hK s => ?_
    refine S s<|zw q (fun s => yl_b (y_leq s q q) d0)<|tw_ q<|mw q<|zw q (bF 1 · u38 q)<|zw q (lB 1000 · u25 q) fun a s => ?_
    refine gC s q func73 (c_r21_lightNames n _ _ s.lt _ _ _ (s.ft 101 q) _ _ h0) fun G1 a w hK hp s => ?_
    obtain rfl := hp.trans (congrArg Value.bool a0)
    refine S s<|tw_ q<|mw q<|zw q (bF 9 · u38 q)<|zw q (lB 1000 · u25 q) fun a s => ?_
    refine gC s q func73 (c_r21_lightNames n _ _ s.lt _ _ _ (s.ft 109 q) _ _ j0) fun H1 a w hK hp s => ?_
    obtain rfl := hp.trans (congrArg Value.bool c0)
    refine S s<|tw_ q<|mw q<|gw q<|gw q<|gw q<|fw q<|mw q<|gw q<|gw q<|gw q<|fw q<|mw q<|gw q<|gw q<|gw q<|fw q<|mw q<|gw q<|gw q<|gw q<|fw q<|mw q<|gw q<|gw q<|fw q<|aw q<|nw fun a s => ?_
    apply wp_ret
    obtain rfl := si hg
    exact fin1 (fn := Tryz.f51) s q (r_tmp s q) q
   replace hg := br_n hg a0
   refine S s<|lw<|yw q (bF 0 · u38 q)<|yw q (lB 1000 · u9 q)<|yw q (y_lenStrN · q u9)<|yw q (fun s => yl_b (y_leqN (i := ((m_.Name).length)) (j := 100) s q q) b0)<|mw q<|zw q (y_loadAll (kk := 1000) · q q u38 q q) fun a s => ?_
   refine gV s q func52 (c_r21_count n _ _ s.lt _ _ _ _ _ _ _ _ _ _ _ _ _ _ _ _ _ _ _ (by omega) (s.ft 101 q) (s.ft 102 q) (s.ft 103 q) (s.ft 104 q) (s.ft 105 q) (s.ft 106 q) (s.ft 107 q) (s.ft 108 q) (s.ft 109 q) _ e0) fun a w hK s => ?_
   refine S s<|zw q (fun s => yl_b (y_leq s q q) d0)<|tw_ q<|mw q<|zw q (bF 1 · u38 q)<|zw q (lB 1000 · u25 q) fun a s => ?_
   refine gC s q func73 (c_r21_lightNames n _ _ s.lt _ _ _ (s.ft 101 q) _ _ h0) fun g1 a w hK hp s => ?_
   obtain rfl := hp.trans (congrArg Value.bool a0)
   refine S s<|tw_ q<|mw q<|gw q<|gw q<|gw q<|fw q<|mw q<|gw q<|gw q<|gw q<|fw q<|mw q<|gw q<|gw q<|gw q<|fw q<|mw q<|gw q<|gw q<|gw q<|fw q<|mw q<|gw q<|gw q<|gw q<|fw q<|mw q<|gw q<|gw q<|fw q<|aw q<|nw fun a s => ?_
   apply wp_ret
   obtain rfl := si hg
   exact fin1 (fn := Tryz.f51) s q (r_tmp s q) q
  have d0 := decide_eq_false o0
  replace hg := br_f hg o0
  refine S s<|lw<|yw q (bF 0 · u38 q)<|yw q (lB 1000 · u9 q)<|yw q (y_lenStrN · q u9)<|yw q (fun s => yl_b (y_leqN (i := ((m_.Name).length)) (j := 100) s q q) b0)<|mw q<|zw q (y_loadAll (kk := 1000) · q q u38 q q) fun a s => ?_
  refine gV s q func52 (c_r21_count n _ _ s.lt _ _ _ _ _ _ _ _ _ _ _ _ _ _ _ _ _ _ _ (by omega) (s.ft 101 q) (s.ft 102 q) (s.ft 103 q) (s.ft 104 q) (s.ft 105 q) (s.ft 106 q) (s.ft 107 q) (s.ft 108 q) (s.ft 109 q) _ e0) fun a w hK s => ?_
  refine S s<|zw q (fun s => yl_b (y_leq s q q) d0)<|tw_ q<|mw q<|gw q<|gw q<|gw q<|fw q<|mw q<|gw q<|gw q<|gw q<|fw q<|mw q<|gw q<|gw q<|gw q<|fw q<|mw q<|gw q<|gw q<|gw q<|fw q<|mw q<|gw q<|gw q<|gw q<|fw q<|mw q<|gw q<|gw q<|gw q<|fw q<|mw q<|gw q<|gw q<|fw q<|aw q<|nw fun a s => ?_
  apply wp_ret
  obtain rfl := si hg
  exact fin1 (fn := Tryz.f51) s q (r_tmp s q) q
 have b0 := decide_eq_false m0
 replace hg := br_f hg m0
 refine S s<|lw<|yw q (bF 0 · u38 q)<|yw q (lB 1000 · u9 q)<|yw q (y_lenStrN · q u9)<|yw q (fun s => yl_b (y_leqN (i := ((m_.Name).length)) (j := 100) s q q) b0)<|mw q<|gw q<|gw q<|gw q<|fw q<|mw q<|gw q<|gw q<|gw q<|fw q<|mw q<|gw q<|gw q<|gw q<|fw q<|mw q<|gw q<|gw q<|gw q<|fw q<|mw q<|gw q<|gw q<|gw q<|fw q<|mw q<|gw q<|gw q<|gw q<|fw q<|mw q<|gw q<|gw q<|gw q<|fw q<|mw q<|gw q<|gw q<|fw q<|aw q<|nw fun a s => ?_
 apply wp_ret
 obtain rfl := si hg
 exact fin1 (fn := Tryz.f51) s q (r_tmp s q) q
set_option maxHeartbeats 1000000 in
theorem c_r21_Light (n : Nat) (M : Bs) (w0 : World) (hM : ∀ b, M b → b < w0.heap.size) (l_ : (List Module)) (c0 : Option Addr) (d0 : Nat) (F0 : sR RModule M w0 c0 d0 l_) (r : Bool) (hg : r21_Light n l_ = some r) :
    Calls Tryz.prog 22 [sl c0 l_ d0].toArray w0 (Ret noB w0 fun v w => v = .bool (r)) := by
 unfold r21_Light at hg
 refine enter M noB func22 q q hM ?_
 intro a s
 refine S s<|esw 101 F0<|vw<|aw q<|nw<|sw<|vw<|mw q<|yw q (lS · q u22)<|yw q (y_gtrN (i := ((l_).length)) (j := 300) · q q)<|nw fun a s => c_dec s q (fun e0 => ?_) (fun e0 => ?_)
 ·replace hg := br_t hg e0
  have c3 := SlR.mx (s.ft 101 q)
  refine S s<|vw<|aw q<|nw fun a s => ?_
  apply wp_ret
  refine p_thenR ?_
  obtain rfl := si hg
  exact fin1 (fn := Tryz.f22) s q (r_tmp s q) q
 replace hg := br_f hg e0
 refine S s<|kw<|pw<|vw<|aw q<|nw<|sw<|vw<|aw q<|nw<|bw fun a s => ?_
 refine c_loop (σ := Nat) (fun m1 a w => ∃ (n_3 : Int) (a0 : Nat), r21_Light_L0 n l_ m1 n_3 a0 = some r ∧ St (cx f22 M w0) [(0, sl c0 l_ d0), (3, vI n_3), (4, vI (((a0 : Nat) : Int)))] [] [(101, sF RModule c0 d0 l_)] a w) (fun m1 => m1) n ⟨(0), (0), hg, (s.sb q q q)⟩ ?_
 clear s a; rintro m1 a w ⟨n_3, a0, hg, s⟩
 rcases m1 with _ | m1
 ·rw [r21_Light_L0] at hg; cases hg
 rw [r21_Light_L0] at hg
 refine S s<|sw<|vw<|mw q<|mw q<|yw q (lS · q u22)<|yw q (y_lssN (i := a0) (j := ((l_).length)) · q q)<|nw fun a s => c_dec s q (fun i0 => ?_) (fun i0 => ?_)
 ·replace hg := br_t hg i0
  have d3 := SlR.mx (s.ft 101 q)
  obtain ⟨x8, b0, hg⟩ := bind_some hg
  obtain ⟨n3, u1, hg⟩ := bind_some hg
  refine S s<|kw<|pw<|sw<|bw<|sw<|sw<|lw<|mw q<|mw q fun a s => ?_
  obtain ⟨j3, r0, v0, B0, Y2, n0, j0⟩ := SlR.elemX (s.ft 101 q) b0
  refine qq s q (eL 10 a0 s u22 r0 (lt_of_get b0) q) fun a s => ?_
  obtain ⟨y1, m2, z1, n2, B1, o2, C1, p2, D1, q2, E1, r2, F1, s2, G1, t2, x1, l2, rfl, e3, H0, I0, J0, K0, L0, M0, O0, P0, G0⟩ := RModule.open n0
  refine S s<|nsw 111 H0<|nsw 112 I0<|nsw 113 J0<|nsw 114 K0<|nsw 115 L0<|nsw 116 M0<|nsw 117 O0<|nsw 118 P0<|nsw 119 G0<|yw q (y_ldp · q v0 B0 (by simpa using j0) u38 q q) fun a s => ?_
  refine lV s q func51 (c_r21_LightModule n _ _ s.lt _ _ _ _ _ _ _ _ _ _ _ _ _ _ _ _ _ _ _ (by omega) (s.ft 111 q) (s.ft 112 q) (s.ft 113 q) (s.ft 114 q) (s.ft 115 q) (s.ft 116 q) (s.ft 117 q) (s.ft 118 q) (s.ft 119 q) _ u1) fun a w hK s => ?_
  refine S s<|yw q (y_not · q)<|nw fun a s => c_cond s q (fun g0 => ?_) (fun g0 => ?_)
  ·replace hg := br_t hg g0
   refine S s<|vw<|aw q<|nw fun a s => ?_
   apply wp_ret
   refine p_thenR ?_
   refine p_inR ?_
   refine p_thenR ?_
   refine p_thenR ?_
   refine p_inR ?_
   refine p_thenR ?_
   obtain rfl := si hg
   exact fin1 (fn := Tryz.f22) s q (r_tmp s q) q
  replace hg := br_n hg g0
  obtain ⟨w1, v1, hg⟩ := bind_some hg
  apply wp_skip
  apply pN
  apply wQ
  refine d_plan s [] [(0, some 0), (1, some 0), (2, some 0), (3, some 0), (4, some 0), (7, some 0), (8, some 0), (9, some 0), (10, some 0), (11, some 0), (12, some 0), (14, some 0), (15, some 0), (16, some 0), (17, some 0), (18, some 0), (19, some 0), (5, none), (6, none), (13, none), (20, none), (21, none)] q (by kernel_rfl) (by kernel_rfl) q ?_; clear s; intro wr hZ s; have hR := s.wd
  refine S s<|qw hR q (mo · q)<|qw hR q (mo · q)<|qw hR q (mo · q) fun a s => ?_
  obtain ⟨k3, s0, x0, C0, Z2, o0, k0⟩ := SlR.elemX (s.ft 101 q) b0
  refine qt s hR q (eL 10 a0 s u22 s0 (lt_of_get b0) q) fun a s => ?_
  obtain ⟨I1, v2, J1, w2, K1, x2, L1, y2, M1, z2, O1, B2, P1, C2, Q1, D2, H1, u2, rfl, g3, R0, S0, T0, U0, V0, X0, Y0, Z0, Q0⟩ := RModule.open o0
  refine S s<|nsw 147 R0<|nsw 148 S0<|nsw 149 T0<|nsw 150 U0<|nsw 151 V0<|nsw 152 X0<|nsw 153 Y0<|nsw 154 Z0<|nsw 155 Q0<|qw hR q (y_ldp · q x0 C0 (by simpa using k0) u38 q q)<|qw hR q (mo · q)<|qw hR q (mo · q) fun a s => ?_
  obtain ⟨l3, t0, y0, D0, a3, p0, l0⟩ := SlR.elemX (s.ft 101 q) b0
  refine S s<|qw hR q (eL 10 a0 · u22 t0 (lt_of_get b0) q)<|qw hR q (pF 1 · u38 q) fun a s => ?_
  obtain ⟨S1, F2, T1, G2, U1, H2, V1, I2, X1, J2, Y1, K2, Z1, L2, a2, M2, R1, E2, rfl, h3, b1, c1, d1, e1, g1, h1, i1, j1, a1⟩ := RModule.open p0
  refine S s<|nsw 156 b1<|nsw 157 c1<|nsw 158 d1<|nsw 159 e1<|nsw 160 g1<|nsw 161 h1<|nsw 162 i1<|nsw 163 j1<|nsw 164 a1<|qw hR q (lP · y0 D0 (l0 1 _ q) u25 q)<|qw hR q (lS · q u25)<|qw hR q (mo · q)<|qw hR q (mo · q) fun a s => ?_
  obtain ⟨m3, u0, z0, E0, b3, q0, m0⟩ := SlR.elemX (s.ft 101 q) b0
  refine S s<|qw hR q (eL 10 a0 · u22 u0 (lt_of_get b0) q)<|qw hR q (pF 9 · u38 q) fun a s => ?_
  obtain ⟨c2, P2, d2, Q2, e2, R2, g2, S2, h2, T2, i2, U2, j2, V2, k2, X2, b2, O2, rfl, i3, l1, n1, o1, p1, q1, r1, s1, t1, k1⟩ := RModule.open q0
  refine S s<|nsw 165 l1<|nsw 166 n1<|nsw 167 o1<|nsw 168 p1<|nsw 169 q1<|nsw 170 r1<|nsw 171 s1<|nsw 172 t1<|nsw 173 k1<|qw hR q (lP · z0 E0 (m0 9 _ q) u25 q)<|qw hR q (lS · q u25) fun a s => ?_
  refine l_take s q q (l_call (cap := []) s q func52 q (by kernel_rfl) q q (c_r21_count n _ _ s.lt _ _ _ _ _ _ _ _ _ _ _ _ _ _ _ _ _ _ _ (by omega) (s.ft 147 q) (s.ft 148 q) (s.ft 149 q) (s.ft 150 q) (s.ft 151 q) (s.ft 152 q) (s.ft 153 q) (s.ft 154 q) (s.ft 155 q) _ v1) fun o3 a w hK hp s => ?_)
  refine gz hZ hK fun hZ => ?_; clear hK
  obtain rfl := hp
  refine S s<|tw q (y_wadd · q q)<|tw q (y_wadd · q q)<|tw q (y_wadd · q q)<|tw q (y_assign · q) fun a s => ?_
  clear hR hZ
  refine S s<|pw<|vw<|mw q<|yw q (y_gtr · q q)<|nw fun a s => c_dec s q (fun h0 => ?_) (fun h0 => ?_)
  ·replace hg := br_t hg h0
   refine S s<|vw<|aw q<|nw fun a s => ?_
   apply wp_ret
   refine p_inR ?_
   refine p_thenR ?_
   refine p_thenR ?_
   refine p_inR ?_
   refine p_thenR ?_
   obtain rfl := si hg
   exact fin1 (fn := Tryz.f22) s q (r_tmp s q) q
  replace hg := br_f hg h0
  apply wp_skip
  refine p_inN ?_
  refine S s<|pw<|lw<|mw q<|yw q (y_addN (i := a0) (j := 1) · q q (in64.2 (by omega)))<|aw q<|nw fun a s => ?_
  exact ⟨m1, Nat.lt_succ_self _, ⟨(IntKind.i64.wrap ((IntKind.i64.wrap ((IntKind.i64.wrap (n_3 + w1)) + (((x8.Imports).length : Nat) : Int))) + (((x8.Drops).length : Nat) : Int))), (a0 + 1), hg, (s.sb q q q)⟩⟩
 replace hg := br_f hg i0
 apply wp_exit
 refine p_then ?_
 refine p_then ?_
 refine p_in ?_
 refine S s<|pw<|vw<|aw q<|nw fun a s => ?_
 apply wp_ret
 obtain rfl := si hg
 exact fin1 (fn := Tryz.f22) s q (r_tmp s q) q
set_option maxHeartbeats 1000000 in
theorem c_r01_digit (n : Nat) (M : Bs) (w0 : World) (hM : ∀ b, M b → b < w0.heap.size) (c_ : UInt8) (r : Bool) (hg : r01_digit n c_ = some r) :
    Calls Tryz.prog 127 [.int .u8 (((c_.toNat : Nat) : Int))].toArray w0 (Ret noB w0 fun v w => v = .bool (r)) := by
 unfold r01_digit at hg
 refine enter M noB func127 q q hM ?_
 intro a s
 refine S s<|vw<|aw q<|nw<|sw fun a s => ?_
 rcases Decidable.em ((48 : Nat) ≤ c_.toNat) with a0 | a0
 ·have b0 := decide_eq_true a0
  replace hg := br_t hg a0
  refine S s<|lw<|mw q<|yw q (fun s => yl_b (y_geqN (i := c_.toNat) (j := 48) s q q) b0)<|mw q<|hw q<|zw q (y_leqN (i := c_.toNat) (j := 57) · q q)<|tw_ q<|aw q<|nw fun a s => ?_
  apply wp_ret
  obtain rfl := si hg
  exact fin1 (fn := Tryz.f127) s q (r_tmp s q) q
 have b0 := decide_eq_false a0
 replace hg := br_f hg a0
 refine S s<|lw<|mw q<|yw q (fun s => yl_b (y_geqN (i := c_.toNat) (j := 48) s q q) b0)<|mw q<|gw q<|gw q<|fw q<|aw q<|nw fun a s => ?_
 apply wp_ret
 obtain rfl := si hg
 exact fin1 (fn := Tryz.f127) s q (r_tmp s q) q
set_option maxHeartbeats 1000000 in
theorem c_r01_upper (n : Nat) (M : Bs) (w0 : World) (hM : ∀ b, M b → b < w0.heap.size) (c_ : UInt8) (r : Bool) (hg : r01_upper n c_ = some r) :
    Calls Tryz.prog 130 [.int .u8 (((c_.toNat : Nat) : Int))].toArray w0 (Ret noB w0 fun v w => v = .bool (r)) := by
 unfold r01_upper at hg
 refine enter M noB func130 q q hM ?_
 intro a s
 refine S s<|vw<|aw q<|nw<|sw fun a s => ?_
 rcases Decidable.em ((65 : Nat) ≤ c_.toNat) with a0 | a0
 ·have b0 := decide_eq_true a0
  replace hg := br_t hg a0
  refine S s<|lw<|mw q<|yw q (fun s => yl_b (y_geqN (i := c_.toNat) (j := 65) s q q) b0)<|mw q<|hw q<|zw q (y_leqN (i := c_.toNat) (j := 90) · q q)<|tw_ q<|aw q<|nw fun a s => ?_
  apply wp_ret
  obtain rfl := si hg
  exact fin1 (fn := Tryz.f130) s q (r_tmp s q) q
 have b0 := decide_eq_false a0
 replace hg := br_f hg a0
 refine S s<|lw<|mw q<|yw q (fun s => yl_b (y_geqN (i := c_.toNat) (j := 65) s q q) b0)<|mw q<|gw q<|gw q<|fw q<|aw q<|nw fun a s => ?_
 apply wp_ret
 obtain rfl := si hg
 exact fin1 (fn := Tryz.f130) s q (r_tmp s q) q
set_option maxHeartbeats 1000000 in
theorem c_r01_lower (n : Nat) (M : Bs) (w0 : World) (hM : ∀ b, M b → b < w0.heap.size) (c_ : UInt8) (r : Bool) (hg : r01_lower n c_ = some r) :
    Calls Tryz.prog 136 [.int .u8 (((c_.toNat : Nat) : Int))].toArray w0 (Ret noB w0 fun v w => v = .bool (r)) := by
 unfold r01_lower at hg
 refine enter M noB func136 q q hM ?_
 intro a s
 refine S s<|vw<|aw q<|nw<|sw fun a s => ?_
 rcases Decidable.em ((97 : Nat) ≤ c_.toNat) with a0 | a0
 ·have b0 := decide_eq_true a0
  replace hg := br_t hg a0
  refine S s<|lw<|mw q<|yw q (fun s => yl_b (y_geqN (i := c_.toNat) (j := 97) s q q) b0)<|mw q<|hw q<|zw q (y_leqN (i := c_.toNat) (j := 122) · q q)<|tw_ q<|aw q<|nw fun a s => ?_
  apply wp_ret
  obtain rfl := si hg
  exact fin1 (fn := Tryz.f136) s q (r_tmp s q) q
 have b0 := decide_eq_false a0
 replace hg := br_f hg a0
 refine S s<|lw<|mw q<|yw q (fun s => yl_b (y_geqN (i := c_.toNat) (j := 97) s q q) b0)<|mw q<|gw q<|gw q<|fw q<|aw q<|nw fun a s => ?_
 apply wp_ret
 obtain rfl := si hg
 exact fin1 (fn := Tryz.f136) s q (r_tmp s q) q
set_option maxHeartbeats 1000000 in
theorem c_r01_part (n : Nat) (M : Bs) (w0 : World) (hM : ∀ b, M b → b < w0.heap.size) (c_ : UInt8) (big_ : Bool) (r : Bool) (hg : r01_part n c_ big_ = some r) :
    Calls Tryz.prog 128 [.int .u8 (((c_.toNat : Nat) : Int)), .bool (big_)].toArray w0 (Ret noB w0 fun v w => v = .bool (r)) := by
 unfold r01_part at hg
 refine enter M noB func128 q q hM ?_
 intro a s
 obtain ⟨r1, c0, hg⟩ := bind_some hg
 refine S s<|vw<|aw q<|nw<|sw fun a s => ?_
 rcases Bool.eq_false_or_eq_true (r1) with b0 | b0
 ·replace hg := br_t hg b0
  refine S s<|lw<|mw q fun a s => ?_
  refine lC s q func127 (c_r01_digit n _ _ s.lt _ _ c0) fun v5 a w hK hp s => ?_
  obtain rfl := hp.trans (congrArg Value.bool b0)
  refine S s<|mw q<|gw q<|gw q<|tw_ q<|mw q<|gw q<|gw q<|gw q<|gw q<|gw q<|tw_ q<|mw q<|gw q<|gw q<|gw q<|gw q<|gw q<|gw q<|tw_ q<|aw q<|nw fun a s => ?_
  apply wp_ret
  obtain rfl := si hg
  exact fin1 (fn := Tryz.f128) s q (r_tmp s q) q
 replace hg := br_n hg b0
 rcases Decidable.em (c_.toNat = 45) with e0 | e0
 ·have g0 := decide_eq_true e0
  replace hg := br_t hg e0
  refine S s<|lw<|mw q fun a s => ?_
  refine lC s q func127 (c_r01_digit n _ _ s.lt _ _ c0) fun v8 a w hK hp s => ?_
  obtain rfl := hp.trans (congrArg Value.bool b0)
  refine S s<|mw q<|hw q<|zw q (fun s => yl_b (y_eqlN (i := c_.toNat) (j := 45) s q q) g0)<|fw q<|mw q<|gw q<|gw q<|gw q<|gw q<|gw q<|tw_ q<|mw q<|gw q<|gw q<|gw q<|gw q<|gw q<|gw q<|tw_ q<|aw q<|nw fun a s => ?_
  apply wp_ret
  obtain rfl := si hg
  exact fin1 (fn := Tryz.f128) s q (r_tmp s q) q
 have g0 := decide_eq_false e0
 replace hg := br_f hg e0
 rcases Bool.eq_false_or_eq_true (big_) with a0 | a0
 ·replace hg := br_t hg a0
  obtain ⟨j0, h0, hg⟩ := bind_some hg
  rcases Bool.eq_false_or_eq_true (j0) with d0 | d0
  ·replace hg := br_t hg d0
   refine S s<|lw<|mw q fun a s => ?_
   refine lC s q func127 (c_r01_digit n _ _ s.lt _ _ c0) fun l0 a w hK hp s => ?_
   obtain rfl := hp.trans (congrArg Value.bool b0)
   refine S s<|mw q<|hw q<|zw q (fun s => yl_b (y_eqlN (i := c_.toNat) (j := 45) s q q) g0)<|fw q<|mw q<|zw q (fun s => yl_b (mo s q) a0)<|hw q<|hw q fun a s => ?_
   refine gC s q func130 (c_r01_upper n _ _ s.lt _ _ h0) fun m0 a w hK hp s => ?_
   obtain rfl := hp.trans (congrArg Value.bool d0)
   refine S s<|zw q (pT · q q)<|fw q<|mw q<|gw q<|gw q<|gw q<|gw q<|gw q<|gw q<|tw_ q<|aw q<|nw fun a s => ?_
   apply wp_ret
   obtain rfl := si hg
   exact fin1 (fn := Tryz.f128) s q (r_tmp s q) q
  replace hg := br_n hg d0
  refine S s<|lw<|mw q fun a s => ?_
  refine lC s q func127 (c_r01_digit n _ _ s.lt _ _ c0) fun n0 a w hK hp s => ?_
  obtain rfl := hp.trans (congrArg Value.bool b0)
  refine S s<|mw q<|hw q<|zw q (fun s => yl_b (y_eqlN (i := c_.toNat) (j := 45) s q q) g0)<|fw q<|mw q<|zw q (fun s => yl_b (mo s q) a0)<|hw q<|hw q fun a s => ?_
  refine gC s q func130 (c_r01_upper n _ _ s.lt _ _ h0) fun o0 a w hK hp s => ?_
  obtain rfl := hp.trans (congrArg Value.bool d0)
  refine S s<|zw q (pT · q q)<|fw q<|mw q<|zw q (fun s => yl_b (mo s q) a0)<|zw q (y_not · q)<|hw q<|gw q<|gw q<|zw q (pO · q q)<|fw q<|aw q<|nw fun a s => ?_
  apply wp_ret
  obtain rfl := si hg
  exact fin1 (fn := Tryz.f128) s q (r_tmp s q) q
 replace hg := br_n hg a0
 obtain ⟨k0, i0, hg⟩ := bind_some hg
 refine S s<|lw<|mw q fun a s => ?_
 refine lC s q func127 (c_r01_digit n _ _ s.lt _ _ c0) fun p0 a w hK hp s => ?_
 obtain rfl := hp.trans (congrArg Value.bool b0)
 refine S s<|mw q<|hw q<|zw q (fun s => yl_b (y_eqlN (i := c_.toNat) (j := 45) s q q) g0)<|fw q<|mw q<|zw q (fun s => yl_b (mo s q) a0)<|hw q<|gw q<|gw q<|zw q (pO · q q)<|fw q<|mw q<|zw q (fun s => yl_b (mo s q) a0)<|zw q (y_not · q)<|hw q<|hw q fun a s => ?_
 refine gV s q func136 (c_r01_lower n _ _ s.lt _ _ i0) fun a w hK s => ?_
 refine S s<|zw q (pT · q q)<|fw q<|aw q<|nw fun a s => ?_
 apply wp_ret
 obtain rfl := si hg
 exact fin1 (fn := Tryz.f128) s q (r_tmp s q) q
set_option maxHeartbeats 1000000 in
theorem c_r01_named (n : Nat) (M : Bs) (w0 : World) (hM : ∀ b, M b → b < w0.heap.size) (s_ : (List UInt8)) (s0 : (s_).length ≤ 9223372036854775807) (big_ : Bool) (r : Bool) (hg : r01_named n s_ big_ = some r) :
    Calls Tryz.prog 110 [vT s_, .bool (big_)].toArray w0 (Ret noB w0 fun v w => v = .bool (r)) := by
 unfold r01_named at hg
 refine enter M noB func110 q q hM ?_
 intro a s
 refine S s<|vw<|aw q<|nw<|sw<|sw fun a s => ?_
 obtain ⟨k1, hg, o0⟩ := jn_some hg
 refine c_post (fun a w => ∃ (l0 : Bool), k1 l0 = some r ∧ St (cx f110 M w0) [(0, vT s_), (1, .bool (big_)), (23, .bool (l0))] [] [] a w) ?_ ?_
 ·rcases Decidable.em (((s_).length) < 1) with b0 | b0
  ·have c0 := decide_eq_true b0
   replace hg := br_t hg b0
   refine S s<|lw<|mw q<|yw q (y_lenStrN · q u9)<|yw q (fun s => yl_b (y_lssN (i := ((s_).length)) (j := 1) s q q) c0)<|mw q<|gw q<|gw q<|gw q<|tw_ q<|mw q<|gw q<|gw q<|gw q<|tw_ q<|mw q<|gw q<|gw q<|gw q<|tw_ q<|nw fun a s => ?_
   exact ⟨(true), hg, (s.sb q q q)⟩
  have c0 := decide_eq_false b0
  replace hg := br_f hg b0
  rcases Decidable.em ((32 : Nat) < ((s_).length)) with d0 | d0
  ·have g0 := decide_eq_true d0
   replace hg := br_t hg d0
   refine S s<|lw<|mw q<|yw q (y_lenStrN · q u9)<|yw q (fun s => yl_b (y_lssN (i := ((s_).length)) (j := 1) s q q) c0)<|mw q<|hw q<|zw q (y_lenStrN · q u9)<|zw q (fun s => yl_b (y_gtrN (i := ((s_).length)) (j := 32) s q q) g0)<|fw q<|mw q<|gw q<|gw q<|gw q<|tw_ q<|mw q<|gw q<|gw q<|gw q<|tw_ q<|nw fun a s => ?_
   exact ⟨(true), hg, (s.sb q q q)⟩
  have g0 := decide_eq_false d0
  replace hg := br_f hg d0
  obtain ⟨c5, k0, hg⟩ := bind_some hg
  obtain ⟨r6, m0, hg⟩ := bind_some hg
  rcases Bool.eq_false_or_eq_true (r6) with e0 | e0
  ·replace hg := br_t hg e0
   refine S s<|lw<|mw q<|yw q (y_lenStrN · q u9)<|yw q (fun s => yl_b (y_lssN (i := ((s_).length)) (j := 1) s q q) c0)<|mw q<|hw q<|zw q (y_lenStrN · q u9)<|zw q (fun s => yl_b (y_gtrN (i := ((s_).length)) (j := 32) s q q) g0)<|fw q<|mw q<|hw q<|zw q (y_indexN (i := 0) · q q u9 q k0) fun a s => ?_
   refine gC s q func127 (c_r01_digit n _ _ s.lt _ _ m0) fun u0 a w hK hp s => ?_
   obtain rfl := hp.trans (congrArg Value.bool e0)
   refine S s<|fw q<|mw q<|gw q<|gw q<|gw q<|tw_ q<|nw fun a s => ?_
   exact ⟨(true), hg, (s.sb q q q)⟩
  replace hg := br_n hg e0
  refine S s<|lw<|mw q<|yw q (y_lenStrN · q u9)<|yw q (fun s => yl_b (y_lssN (i := ((s_).length)) (j := 1) s q q) c0)<|mw q<|hw q<|zw q (y_lenStrN · q u9)<|zw q (fun s => yl_b (y_gtrN (i := ((s_).length)) (j := 32) s q q) g0)<|fw q<|mw q<|hw q<|zw q (y_indexN (i := 0) · q q u9 q k0) fun a s => ?_
  refine gC s q func127 (c_r01_digit n _ _ s.lt _ _ m0) fun v0 a w hK hp s => ?_
  obtain rfl := hp.trans (congrArg Value.bool e0)
  refine S s<|fw q<|mw q<|hw q<|zw q (y_indexN (i := 0) · q q u9 q k0)<|zw q (y_eqlN (i := c5.toNat) (j := 45) · q q)<|fw q<|nw fun a s => ?_
  exact ⟨(decide (c5.toNat = 45)), hg, (s.sb q q q)⟩
 clear s a; rintro a w ⟨l0, hg, s⟩
 subst o0
 refine c_cond s q (fun h0 => ?_) (fun h0 => ?_)
 ·replace hg := br_t hg h0
  refine S s<|vw<|aw q<|nw fun a s => ?_
  apply wp_ret
  refine p_thenR ?_
  obtain rfl := si hg
  exact fin1 (fn := Tryz.f110) s q (r_tmp s q) q
 replace hg := br_n hg h0
 refine S s<|kw<|pw<|sw<|vw<|aw q<|nw<|bw fun a s => ?_
 refine c_loop (σ := Nat) (fun m1 a w => ∃ (a0 : Nat), r01_named_L0 n s_ big_ m1 a0 = some r ∧ St (cx f110 M w0) [(0, vT s_), (1, .bool (big_)), (5, vI (((a0 : Nat) : Int)))] [] [] a w) (fun m1 => m1) n ⟨(0), hg, (s.sb q q q)⟩ ?_
 clear s a; rintro m1 a w ⟨a0, hg, s⟩
 rcases m1 with _ | m1
 ·rw [r01_named_L0] at hg; cases hg
 rw [r01_named_L0] at hg
 refine S s<|sw<|vw<|mw q<|mw q<|yw q (y_lenStrN · q u9)<|yw q (y_lssN (i := a0) (j := ((s_).length)) · q q)<|nw fun a s => c_dec s q (fun i0 => ?_) (fun i0 => ?_)
 ·replace hg := br_t hg i0
  have r0 : (s_).length ≤ 9223372036854775807 := (by omega)
  obtain ⟨q0, n0, hg⟩ := bind_some hg
  obtain ⟨t0, p0, hg⟩ := bind_some hg
  refine S s<|kw<|pw<|sw<|bw<|sw<|lw<|mw q<|mw q<|yw q (y_indexN (i := a0) · q q u9 q n0)<|mw q fun a s => ?_
  refine lV s q func128 (c_r01_part n _ _ s.lt _ _ _ p0) fun a w hK s => ?_
  refine S s<|yw q (y_not · q)<|nw fun a s => c_cond s q (fun j0 => ?_) (fun j0 => ?_)
  ·replace hg := br_t hg j0
   refine S s<|vw<|aw q<|nw fun a s => ?_
   apply wp_ret
   refine p_inR ?_
   refine p_thenR ?_
   refine p_thenR ?_
   refine p_inR ?_
   refine p_thenR ?_
   obtain rfl := si hg
   exact fin1 (fn := Tryz.f110) s q (r_tmp s q) q
  replace hg := br_n hg j0
  apply wp_skip
  refine p_inN ?_
  refine S s<|pw<|lw<|mw q<|yw q (y_addN (i := a0) (j := 1) · q q (in64.2 (by omega)))<|aw q<|nw fun a s => ?_
  exact ⟨m1, Nat.lt_succ_self _, ⟨(a0 + 1), hg, (s.sb q q q)⟩⟩
 replace hg := br_f hg i0
 apply wp_exit
 refine p_then ?_
 refine p_then ?_
 refine p_in ?_
 refine S s<|pw<|vw<|aw q<|nw fun a s => ?_
 apply wp_ret
 obtain rfl := si hg
 exact fin1 (fn := Tryz.f110) s q (r_tmp s q) q
set_option maxHeartbeats 1000000 in
theorem c_r01_Name (n : Nat) (M : Bs) (w0 : World) (hM : ∀ b, M b → b < w0.heap.size) (s_ : (List UInt8)) (b0 : (s_).length ≤ 9223372036854775807) (r : Bool) (hg : r01_Name n s_ = some r) :
    Calls Tryz.prog 77 [vT s_].toArray w0 (Ret noB w0 fun v w => v = .bool (r)) := by
 unfold r01_Name at hg
 refine enter M noB func77 q q hM ?_
 intro a s
 obtain ⟨r1, a0, hg⟩ := bind_some hg
 refine S s<|vw<|aw q<|nw<|sw<|lw<|mw q fun a s => ?_
 refine lV s q func110 (c_r01_named n _ _ s.lt _ (by omega) _ _ a0) fun a w hK s => ?_
 refine S s<|aw q<|nw fun a s => ?_
 apply wp_ret
 obtain rfl := si hg
 exact fin1 (fn := Tryz.f77) s q (r_tmp s q) q
set_option maxHeartbeats 1000000 in
theorem c_r21_long (n : Nat) (M : Bs) (w0 : World) (hM : ∀ b, M b → b < w0.heap.size) (m_ : Module) (e0 : Option Addr) (o0 : Nat) (g0 : Option Addr) (p0 : Nat) (h0 : Option Addr) (q0 : Nat) (i0 : Option Addr) (r0 : Nat) (j0 : Option Addr) (s0 : Nat) (k0 : Option Addr) (t0 : Nat) (l0 : Option Addr) (u0 : Nat) (m0 : Option Addr) (v0 : Nat) (d0 : Option Addr) (n0 : Nat) (S0 : (m_.Name).length ≤ 9223372036854775807) (G0 : sR Rep.str M w0 e0 o0 m_.Imports) (H0 : sR RTypeDecl M w0 g0 p0 m_.Types) (I0 : sR RDef M w0 h0 q0 m_.Templates) (J0 : sR REntryDecl M w0 i0 r0 m_.Entries) (K0 : sR RLexDecl M w0 j0 s0 m_.LexRules) (L0 : sR RDef M w0 k0 t0 m_.Rules) (M0 : sR RDef M w0 l0 u0 m_.Roots) (O0 : sR (Rep.list Rep.str) M w0 m0 v0 m_.Checks) (F0 : sR Rep.str M w0 d0 n0 m_.Drops) (r : Bool) (hg : r21_long n m_ = some r) :
    Calls Tryz.prog 78 [.agg #[vT m_.Name, sl e0 m_.Imports o0, sl g0 m_.Types p0, sl h0 m_.Templates q0, sl i0 m_.Entries r0, sl j0 m_.LexRules s0, sl k0 m_.Rules t0, sl l0 m_.Roots u0, sl m0 m_.Checks v0, sl d0 m_.Drops n0]].toArray w0 (Ret noB w0 fun v w => v = .bool (r)) := by
 unfold r21_long at hg
 refine enter M noB func78 q q hM ?_
 intro a s
 refine S s<|esw 101 G0<|esw 102 H0<|esw 103 I0<|esw 104 J0<|esw 105 K0<|esw 106 L0<|esw 107 M0<|esw 108 O0<|esw 109 F0<|vw fun a s => ?_
 refine l_seq q (l_box (zs := [vT m_.Name, sl e0 m_.Imports o0, sl g0 m_.Types p0, sl h0 m_.Templates q0, sl i0 m_.Entries r0, sl j0 m_.LexRules s0, sl k0 m_.Rules t0, sl l0 m_.Roots u0, sl m0 m_.Checks v0, sl d0 m_.Drops n0]) s 1000 q q q q fun b2 a w hb hK s => ?_)
 refine S s<|aw q<|nw<|vw<|yw q (bF 1 · u38 q)<|yw q (lB 1000 · u25 q)<|yw q (lS · q u25)<|yw q (bF 2 · u38 q)<|yw q (lB 1000 · u32 q)<|yw q (lS · q u32)<|yw q (bF 3 · u38 q)<|yw q (lB 1000 · u33 q)<|yw q (lS · q u33)<|yw q (bF 4 · u38 q)<|yw q (lB 1000 · u34 q)<|yw q (lS · q u34)<|yw q (bF 5 · u38 q)<|yw q (lB 1000 · u35 q)<|yw q (lS · q u35)<|yw q (bF 6 · u38 q)<|yw q (lB 1000 · u33 q)<|yw q (lS · q u33)<|yw q (bF 7 · u38 q)<|yw q (lB 1000 · u33 q)<|yw q (lS · q u33)<|yw q (bF 8 · u38 q)<|yw q (lB 1000 · u36 q)<|yw q (lS · q u36)<|yw q (bF 9 · u38 q)<|yw q (lB 1000 · u25 q)<|yw q (lS · q u25) fun a s => ?_
 refine l_seq q (l_buildDense (sz := 1) s 1127 q q q u147 q q q q q q q fun b4 a w D0 hK s => ?_)
 clear D0
 refine S s<|aw q<|nw<|sw<|vw<|aw q<|nw<|bw fun a s => ?_
 replace s := s.add 112 (rdF (Rep.num .i64) (cellsOfL [vI ((((m_.Imports).length : Nat) : Int)), vI ((((m_.Types).length : Nat) : Int)), vI ((((m_.Templates).length : Nat) : Int)), vI ((((m_.Entries).length : Nat) : Int)), vI ((((m_.LexRules).length : Nat) : Int)), vI ((((m_.Rules).length : Nat) : Int)), vI ((((m_.Roots).length : Nat) : Int)), vI ((((m_.Checks).length : Nat) : Int)), vI ((((m_.Drops).length : Nat) : Int))]) ([(((m_.Imports).length : Nat) : Int), (((m_.Types).length : Nat) : Int), (((m_.Templates).length : Nat) : Int), (((m_.Entries).length : Nat) : Int), (((m_.LexRules).length : Nat) : Int), (((m_.Rules).length : Nat) : Int), (((m_.Roots).length : Nat) : Int), (((m_.Checks).length : Nat) : Int), (((m_.Drops).length : Nat) : Int)])) (RdAll.cons (by exact q) (RdAll.cons (by exact q) (RdAll.cons (by exact q) (RdAll.cons (by exact q) (RdAll.cons (by exact q) (RdAll.cons (by exact q) (RdAll.cons (by exact q) (RdAll.cons (by exact q) (RdAll.cons (by exact q) (rN))))))))))
 replace s := s.al 111 112 q
 replace s := s.pk [(1000, 1000), (700110, 1127)] (by decide)
 refine c_loop (σ := Nat) (fun m1 a w => ∃ (b0 : (List Int)) (a0 : Nat) (A6 : Option Addr) (c7 : Nat) (c0 : List Value), r21_long_L0 n  m1 b0 a0 = some r ∧ St (cx f78 M w0) [(3, sl A6 b0 c7), (4, vI (((a0 : Nat) : Int)))] [(700110, Ob.row (A6) ((b0).length) (c7) 3 1 (c0))] [(111, rdF (Rep.num .i64) (c0) (b0))] a w) (fun m1 => m1) n ⟨([(((m_.Imports).length : Nat) : Int), (((m_.Types).length : Nat) : Int), (((m_.Templates).length : Nat) : Int), (((m_.Entries).length : Nat) : Int), (((m_.LexRules).length : Nat) : Int), (((m_.Rules).length : Nat) : Int), (((m_.Roots).length : Nat) : Int), (((m_.Checks).length : Nat) : Int), (((m_.Drops).length : Nat) : Int)]), (0), (some ⟨b4, 0, none⟩), (9), (cellsOfL [vI ((((m_.Imports).length : Nat) : Int)), vI ((((m_.Types).length : Nat) : Int)), vI ((((m_.Templates).length : Nat) : Int)), vI ((((m_.Entries).length : Nat) : Int)), vI ((((m_.LexRules).length : Nat) : Int)), vI ((((m_.Rules).length : Nat) : Int)), vI ((((m_.Roots).length : Nat) : Int)), vI ((((m_.Checks).length : Nat) : Int)), vI ((((m_.Drops).length : Nat) : Int))]), hg, (s.sb q q q)⟩ ?_
 clear s a; rintro m1 a w ⟨b0, a0, A6, c7, c0, hg, s⟩
 rcases m1 with _ | m1
 ·rw [r21_long_L0] at hg; cases hg
 rw [r21_long_L0] at hg
 refine S s<|sw<|vw<|mw q<|mw q<|yw q (lS · q u147)<|yw q (y_lssN (i := a0) (j := ((b0).length)) · q q)<|nw fun a s => c_dec s q (fun x0 => ?_) (fun x0 => ?_)
 ·replace hg := br_t hg x0
  have R0 := row_mx (s.wd.holds 700110 _ q)
  obtain ⟨T0, B0, hg⟩ := bind_some hg
  refine S s<|kw<|pw<|sw<|bw<|sw<|lw<|mw q<|mw q fun a s => ?_
  obtain ⟨E0, Q0, z0⟩ := SlR.row1 (s.wd.holds 700110 _ q) (s.ft 111 q) q q B0
  refine qq s q (y_rowIndex (sz := 1) (i := a0) s q q u147 q z0 q E0) fun a s => ?_
  have P0 := (s.ft 111 q).at_ _ _ B0
  have C0 := P0
  refine S s<|yw q (y_loadRow1 (kk := 700110) · q q z0 (take1 C0) u3 q)<|yw q (y_gtr · q q)<|nw fun a s => c_dec s q (fun y0 => ?_) (fun y0 => ?_)
  ·replace hg := br_t hg y0
   refine S s<|vw<|aw q<|nw fun a s => ?_
   apply wp_ret
   refine p_inR ?_
   refine p_thenR ?_
   refine p_thenR ?_
   refine p_inR ?_
   refine p_thenR ?_
   obtain rfl := si hg
   exact fin1 (fn := Tryz.f78) s q (r_tmp s q) q
  replace hg := br_f hg y0
  apply wp_skip
  refine p_inN ?_
  refine S s<|pw<|lw<|mw q<|yw q (y_addN (i := a0) (j := 1) · q q (in64.2 (by omega)))<|aw q<|nw<|alw 111 111 q fun a s => ?_
  exact ⟨m1, Nat.lt_succ_self _, ⟨(b0), (a0 + 1), (A6), (c7), (c0), hg, (s.sb q q q)⟩⟩
 replace hg := br_f hg x0
 apply wp_exit
 refine p_then ?_
 refine p_then ?_
 refine p_in ?_
 refine S s<|pw<|vw<|aw q<|nw fun a s => ?_
 apply wp_ret
 obtain rfl := si hg
 exact fin1 (fn := Tryz.f78) s q (r_tmp s q) q
set_option maxHeartbeats 1000000 in
theorem c_r01_Feature (n : Nat) (M : Bs) (w0 : World) (hM : ∀ b, M b → b < w0.heap.size) (s_ : (List UInt8)) (b0 : (s_).length ≤ 9223372036854775807) (r : Bool) (hg : r01_Feature n s_ = some r) :
    Calls Tryz.prog 111 [vT s_].toArray w0 (Ret noB w0 fun v w => v = .bool (r)) := by
 unfold r01_Feature at hg
 refine enter M noB func111 q q hM ?_
 intro a s
 obtain ⟨r1, a0, hg⟩ := bind_some hg
 refine S s<|vw<|aw q<|nw<|sw<|lw<|mw q fun a s => ?_
 refine lV s q func110 (c_r01_named n _ _ s.lt _ (by omega) _ _ a0) fun a w hK s => ?_
 refine S s<|aw q<|nw fun a s => ?_
 apply wp_ret
 obtain rfl := si hg
 exact fin1 (fn := Tryz.f111) s q (r_tmp s q) q
set_option maxHeartbeats 1000000 in
theorem c_r21_allNames (n : Nat) (M : Bs) (w0 : World) (hM : ∀ b, M b → b < w0.heap.size) (l_ : (List (List UInt8))) (c0 : Option Addr) (d0 : Nat) (E0 : sR Rep.str M w0 c0 d0 l_) (big_ : Bool) (r : Bool) (hg : r21_allNames n l_ big_ = some r) :
    Calls Tryz.prog 79 [sl c0 l_ d0, .bool (big_)].toArray w0 (Ret noB w0 fun v w => v = .bool (r)) := by
 unfold r21_allNames at hg
 refine enter M noB func79 q q hM ?_
 intro a s
 refine S s<|esw 101 E0<|vw<|aw q<|nw<|sw<|vw<|aw q<|nw<|bw fun a s => ?_
 refine c_loop (σ := Nat) (fun m1 a w => ∃ (a0 : Nat), r21_allNames_L0 n l_ big_ m1 a0 = some r ∧ St (cx f79 M w0) [(0, sl c0 l_ d0), (1, .bool (big_)), (5, vI (((a0 : Nat) : Int)))] [] [(101, sF Rep.str c0 d0 l_)] a w) (fun m1 => m1) n ⟨(0), hg, (s.sb q q q)⟩ ?_
 clear s a; rintro m1 a w ⟨a0, hg, s⟩
 rcases m1 with _ | m1
 ·rw [r21_allNames_L0] at hg; cases hg
 rw [r21_allNames_L0] at hg
 refine S s<|sw<|vw<|mw q<|mw q<|yw q (lS · q u25)<|yw q (y_lssN (i := a0) (j := ((l_).length)) · q q)<|nw fun a s => c_dec s q (fun h0 => ?_) (fun h0 => ?_)
 ·replace hg := br_t hg h0
  have L0 := SlR.mx (s.ft 101 q)
  refine S s<|kw<|pw<|sw<|bw<|sw fun a s => ?_
  obtain ⟨k4, hg, v0⟩ := jn_some hg
  refine c_post (fun a w => ∃ (j0 : Bool), k4 j0 = some r ∧ St (cx f79 M w0) [(0, sl c0 l_ d0), (1, .bool (big_)), (5, vI (((a0 : Nat) : Int))), (32, .bool (j0))] [] [(101, sF Rep.str c0 d0 l_)] a w) ?_ ?_
  ·rcases Bool.eq_false_or_eq_true (big_) with b0 | b0
   ·replace hg := br_t hg b0
    obtain ⟨x8, g0, hg⟩ := bind_some hg
    obtain ⟨G0, k0, hg⟩ := bind_some hg
    rcases Bool.eq_false_or_eq_true (!(G0)) with e0 | e0
    ·replace hg := br_t hg e0
     refine S s<|lw<|yw q (fun s => yl_b (mo s q) b0)<|mw q<|hw q<|hw q fun a s => ?_
     obtain ⟨Q0, s0, x0, B0, I0, p0, m0⟩ := SlR.elemX (s.ft 101 q) g0
     refine gy s q (eL 1 a0 s u25 s0 (lt_of_get g0) q) fun a s => ?_
     obtain ⟨rfl, M0⟩ := p0
     refine gy s q (lP s x0 B0 (m0 0 _ q) u9 q) fun a s => ?_
     refine gV s q func111 (c_r01_Feature n _ _ s.lt _ (by omega) _ k0) fun a w hK s => ?_
     refine S s<|zw q (fun s => yl_b (y_not s q) e0)<|tw_ q<|mw q<|gw q<|gw q<|gw q<|gw q<|gw q<|gw q<|gw q<|gw q<|gw q<|gw q<|tw_ q<|nw fun a s => ?_
     exact ⟨(true), hg, (s.sb q q q)⟩
    replace hg := br_n hg e0
    refine S s<|lw<|yw q (fun s => yl_b (mo s q) b0)<|mw q<|hw q<|hw q fun a s => ?_
    obtain ⟨R0, t0, y0, C0, J0, q0, n0⟩ := SlR.elemX (s.ft 101 q) g0
    refine gy s q (eL 1 a0 s u25 t0 (lt_of_get g0) q) fun a s => ?_
    obtain ⟨rfl, O0⟩ := q0
    refine gy s q (lP s y0 C0 (n0 0 _ q) u9 q) fun a s => ?_
    refine gV s q func111 (c_r01_Feature n _ _ s.lt _ (by omega) _ k0) fun a w hK s => ?_
    refine S s<|zw q (fun s => yl_b (y_not s q) e0)<|tw_ q<|mw q<|zw q (fun s => yl_b (mo s q) b0)<|zw q (y_not · q)<|hw q<|gw q<|gw q<|gw q<|gw q<|gw q<|gw q<|zw q (pO · q q)<|fw q<|nw fun a s => ?_
    exact ⟨(false), hg, (s.sb q q q)⟩
   replace hg := br_n hg b0
   obtain ⟨T0, l0, hg⟩ := bind_some hg
   obtain ⟨H0, F0, hg⟩ := bind_some hg
   refine S s<|lw<|yw q (fun s => yl_b (mo s q) b0)<|mw q<|gw q<|gw q<|gw q<|gw q<|gw q<|gw q<|fw q<|mw q<|zw q (fun s => yl_b (mo s q) b0)<|zw q (y_not · q)<|hw q<|hw q<|hw q fun a s => ?_
   obtain ⟨S0, u0, z0, D0, K0, r0, o0⟩ := SlR.elemX (s.ft 101 q) l0
   refine gy s q (eL 1 a0 s u25 u0 (lt_of_get l0) q) fun a s => ?_
   obtain ⟨rfl, P0⟩ := r0
   refine gy s q (lP s z0 D0 (o0 0 _ q) u9 q) fun a s => ?_
   refine gV s q func77 (c_r01_Name n _ _ s.lt _ (by omega) _ F0) fun a w hK s => ?_
   refine S s<|zw q (y_not · q)<|zw q (pT · q q)<|fw q<|nw fun a s => ?_
   exact ⟨(!(H0)), hg, (s.sb q q q)⟩
  clear s a; rintro a w ⟨j0, hg, s⟩
  subst v0
  refine c_cond s q (fun i0 => ?_) (fun i0 => ?_)
  ·replace hg := br_t hg i0
   refine S s<|vw<|aw q<|nw fun a s => ?_
   apply wp_ret
   refine p_inR ?_
   refine p_thenR ?_
   refine p_thenR ?_
   refine p_inR ?_
   refine p_thenR ?_
   obtain rfl := si hg
   exact fin1 (fn := Tryz.f79) s q (r_tmp s q) q
  replace hg := br_n hg i0
  apply wp_skip
  refine p_inN ?_
  refine S s<|pw<|lw<|mw q<|yw q (y_addN (i := a0) (j := 1) · q q (in64.2 (by omega)))<|aw q<|nw fun a s => ?_
  exact ⟨m1, Nat.lt_succ_self _, ⟨(a0 + 1), hg, (s.sb q q q)⟩⟩
 replace hg := br_f hg h0
 apply wp_exit
 refine p_then ?_
 refine p_then ?_
 refine p_in ?_
 refine S s<|pw<|vw<|aw q<|nw fun a s => ?_
 apply wp_ret
 obtain rfl := si hg
 exact fin1 (fn := Tryz.f79) s q (r_tmp s q) q
set_option maxHeartbeats 1000000 in
theorem c_r21_first (n : Nat) (M : Bs) (w0 : World) (hM : ∀ b, M b → b < w0.heap.size) (l_ : (List Int)) (b0 : Option Addr) (c0 : Nat) (r0 : sR (Rep.num .i64) M w0 b0 c0 l_) (r : Int) (hg : r21_first n l_ = some r) :
    Calls Tryz.prog 80 [sl b0 l_ c0].toArray w0 (Ret noB w0 fun v w => v = .int .i64 (r)) := by
 unfold r21_first at hg
 refine enter M noB func80 q q hM ?_
 intro a s
 refine S s<|esw 101 r0<|vw<|aw q<|nw<|sw<|vw<|aw q<|nw<|bw fun a s => ?_
 refine c_loop (σ := Nat) (fun m1 a w => ∃ (a0 : Nat), r21_first_L0 n l_ m1 a0 = some r ∧ St (cx f80 M w0) [(0, sl b0 l_ c0), (3, vI (((a0 : Nat) : Int)))] [] [(101, sF (Rep.num .i64) b0 c0 l_)] a w) (fun m1 => m1) n ⟨(0), hg, (s.sb q q q)⟩ ?_
 clear s a; rintro m1 a w ⟨a0, hg, s⟩
 rcases m1 with _ | m1
 ·rw [r21_first_L0] at hg; cases hg
 rw [r21_first_L0] at hg
 refine S s<|sw<|vw<|mw q<|mw q<|yw q (lS · q u113)<|yw q (y_lssN (i := a0) (j := ((l_).length)) · q q)<|nw fun a s => c_dec s q (fun e0 => ?_) (fun e0 => ?_)
 ·replace hg := br_t hg e0
  have u0 := SlR.mx (s.ft 101 q)
  obtain ⟨x5, d0, hg⟩ := bind_some hg
  refine S s<|kw<|pw<|sw<|bw<|sw<|lw<|mw q<|mw q fun a s => ?_
  obtain ⟨p7, m0, o0, q0, t0, k0, i0⟩ := SlR.elemX (s.ft 101 q) d0
  refine qq s q (eL 1 a0 s u113 m0 (lt_of_get d0) q) fun a s => ?_
  obtain rfl := k0
  refine S s<|yw q (lP · o0 q0 (i0 0 _ q) u26 q)<|yw q (y_neq · q q)<|nw fun a s => c_dec s q (fun g0 => ?_) (fun g0 => ?_)
  ·replace hg := br_t hg g0
   refine S s<|vw<|mw q<|mw q fun a s => ?_
   obtain ⟨v0, l0, n0, p0, s0, j0, h0⟩ := SlR.elemX (s.ft 101 q) d0
   refine qq s q (eL 1 a0 s u113 l0 (lt_of_get d0) q) fun a s => ?_
   obtain rfl := j0
   refine S s<|yw q (lP · n0 p0 (h0 0 _ q) u26 q)<|aw q<|nw fun a s => ?_
   apply wp_ret
   refine p_inR ?_
   refine p_thenR ?_
   refine p_thenR ?_
   refine p_inR ?_
   refine p_thenR ?_
   obtain rfl := si hg
   exact fin1 (fn := Tryz.f80) s q (r_tmp s q) q
  replace hg := br_f hg g0
  apply wp_skip
  refine p_inN ?_
  refine S s<|pw<|lw<|mw q<|yw q (y_addN (i := a0) (j := 1) · q q (in64.2 (by omega)))<|aw q<|nw fun a s => ?_
  exact ⟨m1, Nat.lt_succ_self _, ⟨(a0 + 1), hg, (s.sb q q q)⟩⟩
 replace hg := br_f hg e0
 apply wp_exit
 refine p_then ?_
 refine p_then ?_
 refine p_in ?_
 refine S s<|pw<|vw<|aw q<|nw fun a s => ?_
 apply wp_ret
 obtain rfl := si hg
 exact fin1 (fn := Tryz.f80) s q (r_tmp s q) q
set_option maxHeartbeats 1000000 in
theorem c_r21_typeError (n : Nat) (M : Bs) (w0 : World) (hM : ∀ b, M b → b < w0.heap.size) (x_ : TypeDecl) (b0 : Option Addr) (d0 : Nat) (c0 : Option Addr) (e0 : Nat) (a1 : (x_.Name).length ≤ 9223372036854775807) (L0 : sR Rep.str M w0 b0 d0 x_.Supers) (M0 : sR RFeatDecl M w0 c0 e0 x_.Feats) (r : Int) (hg : r21_typeError n x_ = some r) :
    Calls Tryz.prog 112 [.agg #[vT x_.Name, sl b0 x_.Supers d0, sl c0 x_.Feats e0]].toArray w0 (Ret noB w0 fun v w => v = .int .i64 (r)) := by
 unfold r21_typeError at hg
 refine enter M noB func112 q q hM ?_
 intro a s
 let F : Al Fact := [(101, sF Rep.str b0 d0 x_.Supers), (102, sF RFeatDecl c0 e0 x_.Feats)]
 refine S s<|esw 101 L0<|esw 102 M0<|vw fun a s => ?_
 refine l_seq q (l_box (zs := [vT x_.Name, sl b0 x_.Supers d0, sl c0 x_.Feats e0]) s 1000 q q q q fun b2 a w hb hK s => ?_)
 obtain ⟨r3, P0, hg⟩ := bind_some hg
 refine S s<|aw q<|nw<|sw<|sw<|lw<|yw q (bF 0 · u49 q)<|yw q (lB 1000 · u9 q) fun a s => ?_
 refine lV s q func77 (c_r01_Name n _ _ s.lt _ (by omega) _ P0) fun a w hK s => ?_
 refine S s<|yw q (y_not · q)<|nw fun a s => c_cond s q (fun n0 => ?_) (fun n0 => ?_)
 ·replace hg := br_t hg n0
  refine S s<|vw<|aw q<|nw fun a s => ?_
  apply wp_ret
  refine p_thenR ?_
  obtain rfl := si hg
  exact fin1 (fn := Tryz.f112) s q (r_tmp s q) q
 replace hg := br_n hg n0
 apply wp_skip
 apply pN
 apply wQ
 apply wQ
 obtain ⟨k9, hg, E0⟩ := jn_some hg
 refine c_post (fun a w => ∃ (p0 : Bool), k9 p0 = some r ∧ St (cx f112 M w0) [(1, vP b2 0), (17, .bool (p0))] [(1000, Ob.box b2 [vT x_.Name, sl b0 x_.Supers d0, sl c0 x_.Feats e0] 49)] F a w) ?_ ?_
 ·rcases Decidable.em ((256 : Nat) < ((x_.Supers).length)) with h0 | h0
  ·have o0 := decide_eq_true h0
   replace hg := br_t hg h0
   have Y0 := SlR.mx (s.ft 101 q)
   refine S s<|lw<|yw q (bF 1 · u49 q)<|yw q (lB 1000 · u25 q)<|yw q (lS · q u25)<|yw q (fun s => yl_b (y_gtrN (i := ((x_.Supers).length)) (j := 256) s q q) o0)<|mw q<|gw q<|gw q<|gw q<|gw q<|tw_ q<|nw fun a s => ?_
   exact ⟨(true), hg, (s.sb q q q)⟩
  have o0 := decide_eq_false h0
  replace hg := br_f hg h0
  refine S s<|lw<|yw q (bF 1 · u49 q)<|yw q (lB 1000 · u25 q)<|yw q (lS · q u25)<|yw q (fun s => yl_b (y_gtrN (i := ((x_.Supers).length)) (j := 256) s q q) o0)<|mw q<|zw q (bF 2 · u49 q)<|zw q (lB 1000 · u47 q)<|zw q (lS · q u47)<|zw q (y_gtrN (i := ((x_.Feats).length)) (j := 256) · q q)<|fw q<|nw fun a s => ?_
  exact ⟨(decide ((256 : Nat) < ((x_.Feats).length))), hg, (s.sb q q q)⟩
 clear s a; rintro a w ⟨p0, hg, s⟩
 subst E0
 refine c_cond s q (fun j0 => ?_) (fun j0 => ?_)
 ·replace hg := br_t hg j0
  refine S s<|vw<|aw q<|nw fun a s => ?_
  apply wp_ret
  refine p_thenR ?_
  obtain rfl := si hg
  exact fin1 (fn := Tryz.f112) s q (r_tmp s q) q
 replace hg := br_n hg j0
 obtain ⟨l1, O0, hg⟩ := bind_some hg
 refine S s<|kw<|pw<|sw<|sw<|lw<|yw q (bF 1 · u49 q)<|yw q (lB 1000 · u25 q) fun a s => ?_
 refine lV s q func79 (c_r21_allNames n _ _ s.lt _ _ _ (s.ft 101 q) _ _ O0) fun a w hK s => ?_
 refine S s<|yw q (y_not · q)<|nw fun a s => c_cond s q (fun k0 => ?_) (fun k0 => ?_)
 ·replace hg := br_t hg k0
  refine S s<|vw<|aw q<|nw fun a s => ?_
  apply wp_ret
  refine p_thenR ?_
  obtain rfl := si hg
  exact fin1 (fn := Tryz.f112) s q (r_tmp s q) q
 replace hg := br_n hg k0
 refine S s<|kw<|pw<|sw<|vw<|aw q<|nw<|bw fun a s => ?_
 refine c_loop (σ := Nat) (fun m1 a w => ∃ (a0 : Nat), r21_typeError_L0 n x_ m1 a0 = some r ∧ St (cx f112 M w0) [(1, vP b2 0), (3, vI (((a0 : Nat) : Int)))] [(1000, Ob.box b2 [vT x_.Name, sl b0 x_.Supers d0, sl c0 x_.Feats e0] 49)] F a w) (fun m1 => m1) n ⟨(0), hg, (s.sb q q q)⟩ ?_
 clear s a; rintro m1 a w ⟨a0, hg, s⟩
 rcases m1 with _ | m1
 ·rw [r21_typeError_L0] at hg; cases hg
 rw [r21_typeError_L0] at hg
 refine S s<|sw<|vw<|mw q<|yw q (bF 2 · u49 q)<|yw q (lB 1000 · u47 q)<|yw q (lS · q u47)<|yw q (y_lssN (i := a0) (j := ((x_.Feats).length)) · q q)<|nw fun a s => c_dec s q (fun l0 => ?_) (fun l0 => ?_)
 ·replace hg := br_t hg l0
  have Z0 := SlR.mx (s.ft 102 q)
  refine S s<|kw<|pw<|sw<|bw<|sw fun a s => ?_
  obtain ⟨R0, hg, D0⟩ := jn_some hg
  refine c_post (fun a w => ∃ (q0 : Bool), R0 q0 = some r ∧ St (cx f112 M w0) [(1, vP b2 0), (3, vI (((a0 : Nat) : Int))), (46, .bool (q0))] [(1000, Ob.box b2 [vT x_.Name, sl b0 x_.Supers d0, sl c0 x_.Feats e0] 49)] F a w) ?_ ?_
  ·obtain ⟨n1, g0, hg⟩ := bind_some hg
   obtain ⟨S0, r0, hg⟩ := bind_some hg
   rcases Bool.eq_false_or_eq_true (!(S0)) with i0 | i0
   ·replace hg := br_t hg i0
    refine S s<|lw<|yw q (bF 2 · u49 q)<|yw q (lB 1000 · u47 q)<|mw q fun a s => ?_
    obtain ⟨i1, z0, F0, I0, U0, v0, s0⟩ := SlR.elemX (s.ft 102 q) g0
    refine S s<|yw q (eL 2 a0 · u47 z0 (lt_of_get g0) q)<|yw q (pF 0 · u82 q) fun a s => ?_
    obtain ⟨rfl, b1, c1⟩ := RFeatDecl.open v0
    refine qq s q (lP s F0 I0 (s0 0 _ q) u9 q) fun a s => ?_
    refine lV s q func111 (c_r01_Feature n _ _ s.lt _ (by omega) _ r0) fun a w hK s => ?_
    refine S s<|yw q (fun s => yl_b (y_not s q) i0)<|mw q<|gw q<|gw q<|gw q<|gw q<|gw q<|gw q<|gw q<|gw q<|tw_ q<|nw fun a s => ?_
    exact ⟨(true), hg, (s.sb q q q)⟩
   replace hg := br_n hg i0
   obtain ⟨T0, Q0, hg⟩ := bind_some hg
   refine S s<|lw<|yw q (bF 2 · u49 q)<|yw q (lB 1000 · u47 q)<|mw q fun a s => ?_
   obtain ⟨j1, B0, G0, J0, V0, x0, t0⟩ := SlR.elemX (s.ft 102 q) g0
   refine S s<|yw q (eL 2 a0 · u47 B0 (lt_of_get g0) q)<|yw q (pF 0 · u82 q) fun a s => ?_
   obtain ⟨rfl, d1, e1⟩ := RFeatDecl.open x0
   refine qq s q (lP s G0 J0 (t0 0 _ q) u9 q) fun a s => ?_
   refine lV s q func111 (c_r01_Feature n _ _ s.lt _ (by omega) _ r0) fun a w hK s => ?_
   refine S s<|yw q (fun s => yl_b (y_not s q) i0)<|mw q<|zw q (bF 2 · u49 q)<|zw q (lB 1000 · u47 q)<|hw q fun a s => ?_
   obtain ⟨k1, C0, H0, K0, X0, y0, u0⟩ := SlR.elemX (s.ft 102 q) g0
   refine S s<|zw q (eL 2 a0 · u47 C0 (lt_of_get g0) q)<|zw q (pF 1 · u82 q) fun a s => ?_
   obtain ⟨rfl, g1, h1⟩ := RFeatDecl.open y0
   refine gy s q (lP s H0 K0 (u0 1 _ q) u9 q) fun a s => ?_
   refine gV s q func77 (c_r01_Name n _ _ s.lt _ (by omega) _ Q0) fun a w hK s => ?_
   refine S s<|zw q (y_not · q)<|fw q<|nw fun a s => ?_
   exact ⟨(!(T0)), hg, (s.sb q q q)⟩
  clear s a; rintro a w ⟨q0, hg, s⟩
  subst D0
  refine c_cond s q (fun m0 => ?_) (fun m0 => ?_)
  ·replace hg := br_t hg m0
   refine S s<|vw<|aw q<|nw fun a s => ?_
   apply wp_ret
   refine p_inR ?_
   refine p_thenR ?_
   refine p_thenR ?_
   refine p_inR ?_
   refine p_thenR ?_
   obtain rfl := si hg
   exact fin1 (fn := Tryz.f112) s q (r_tmp s q) q
  replace hg := br_n hg m0
  apply wp_skip
  refine p_inN ?_
  refine S s<|pw<|lw<|mw q<|yw q (y_addN (i := a0) (j := 1) · q q (in64.2 (by omega)))<|aw q<|nw fun a s => ?_
  exact ⟨m1, Nat.lt_succ_self _, ⟨(a0 + 1), hg, (s.sb q q q)⟩⟩
 replace hg := br_f hg l0
 apply wp_exit
 refine p_then ?_
 refine p_then ?_
 refine p_in ?_
 refine S s<|pw<|vw<|aw q<|nw fun a s => ?_
 apply wp_ret
 obtain rfl := si hg
 exact fin1 (fn := Tryz.f112) s q (r_tmp s q) q
set_option maxHeartbeats 1000000 in
theorem c_r21_typesError (n : Nat) (M : Bs) (w0 : World) (hM : ∀ b, M b → b < w0.heap.size) (l_ : (List TypeDecl)) (b0 : Option Addr) (c0 : Nat) (m0 : sR RTypeDecl M w0 b0 c0 l_) (r : Int) (hg : r21_typesError n l_ = some r) :
    Calls Tryz.prog 81 [sl b0 l_ c0].toArray w0 (Ret noB w0 fun v w => v = .int .i64 (r)) := by
 unfold r21_typesError at hg
 refine enter M noB func81 q q hM ?_
 intro a s
 refine S s<|esw 101 m0<|vw<|aw q<|nw<|sw<|vw<|aw q<|nw<|bw fun a s => ?_
 refine c_loop (σ := Nat) (fun m1 a w => ∃ (a0 : Nat), r21_typesError_L0 n l_ m1 a0 = some r ∧ St (cx f81 M w0) [(0, sl b0 l_ c0), (3, vI (((a0 : Nat) : Int)))] [] [(101, sF RTypeDecl b0 c0 l_)] a w) (fun m1 => m1) n ⟨(0), hg, (s.sb q q q)⟩ ?_
 clear s a; rintro m1 a w ⟨a0, hg, s⟩
 rcases m1 with _ | m1
 ·rw [r21_typesError_L0] at hg; cases hg
 rw [r21_typesError_L0] at hg
 refine S s<|sw<|vw<|mw q<|mw q<|yw q (lS · q u32)<|yw q (y_lssN (i := a0) (j := ((l_).length)) · q q)<|nw fun a s => c_dec s q (fun e0 => ?_) (fun e0 => ?_)
 ·replace hg := br_t hg e0
  have v0 := SlR.mx (s.ft 101 q)
  obtain ⟨x5, g0, hg⟩ := bind_some hg
  obtain ⟨r7, p0, hg⟩ := bind_some hg
  refine S s<|kw<|pw<|sw<|bw<|sw<|lw<|mw q<|mw q fun a s => ?_
  obtain ⟨y0, j0, k0, l0, u0, i0, h0⟩ := SlR.elemX (s.ft 101 q) g0
  refine qq s q (eL 3 a0 s u32 j0 (lt_of_get g0) q) fun a s => ?_
  obtain ⟨q0, s0, r0, t0, rfl, x0, n0, o0⟩ := RTypeDecl.open i0
  refine S s<|nsw 104 n0<|nsw 105 o0<|yw q (y_ldp · q k0 l0 (by simpa using h0) u49 q q) fun a s => ?_
  refine lV s q func112 (c_r21_typeError n _ _ s.lt _ _ _ _ _ (by omega) (s.ft 104 q) (s.ft 105 q) _ p0) fun a w hK s => ?_
  refine S s<|aw q<|nw<|vw<|mw q<|yw q (y_neq · q q)<|nw fun a s => c_dec s q (fun d0 => ?_) (fun d0 => ?_)
  ·replace hg := br_t hg d0
   refine S s<|vw<|mw q<|aw q<|nw fun a s => ?_
   apply wp_ret
   refine p_inR ?_
   refine p_thenR ?_
   refine p_thenR ?_
   refine p_inR ?_
   refine p_thenR ?_
   obtain rfl := si hg
   exact fin1 (fn := Tryz.f81) s q (r_tmp s q) q
  replace hg := br_f hg d0
  apply wp_skip
  refine p_inN ?_
  refine S s<|pw<|lw<|mw q<|yw q (y_addN (i := a0) (j := 1) · q q (in64.2 (by omega)))<|aw q<|nw fun a s => ?_
  exact ⟨m1, Nat.lt_succ_self _, ⟨(a0 + 1), hg, (s.sb q q q)⟩⟩
 replace hg := br_f hg e0
 apply wp_exit
 refine p_then ?_
 refine p_then ?_
 refine p_in ?_
 refine S s<|pw<|vw<|aw q<|nw fun a s => ?_
 apply wp_ret
 obtain rfl := si hg
 exact fin1 (fn := Tryz.f81) s q (r_tmp s q) q
set_option maxHeartbeats 1000000 in
theorem c_r19_leaf (n : Nat) (M : Bs) (w0 : World) (hM : ∀ b, M b → b < w0.heap.size) (op_ : Int) (r : Bool) (hg : r19_leaf n op_ = some r) :
    Calls Tryz.prog 140 [.int .i64 (op_)].toArray w0 (Ret noB w0 fun v w => v = .bool (r)) := by
 unfold r19_leaf at hg
 refine enter M noB func140 q q hM ?_
 intro a s
 refine S s<|vw<|aw q<|nw<|sw fun a s => ?_
 rcases Decidable.em (op_ = 1) with a0 | a0
 ·have c0 := decide_eq_true a0
  replace hg := br_t hg a0
  refine S s<|lw<|mw q<|yw q (fun s => yl_b (y_eql s q q) c0)<|mw q<|gw q<|gw q<|tw_ q<|mw q<|gw q<|gw q<|tw_ q<|aw q<|nw fun a s => ?_
  apply wp_ret
  obtain rfl := si hg
  exact fin1 (fn := Tryz.f140) s q (r_tmp s q) q
 have c0 := decide_eq_false a0
 replace hg := br_f hg a0
 rcases Decidable.em (op_ = 2) with b0 | b0
 ·have d0 := decide_eq_true b0
  replace hg := br_t hg b0
  refine S s<|lw<|mw q<|yw q (fun s => yl_b (y_eql s q q) c0)<|mw q<|hw q<|zw q (fun s => yl_b (y_eql s q q) d0)<|fw q<|mw q<|gw q<|gw q<|tw_ q<|aw q<|nw fun a s => ?_
  apply wp_ret
  obtain rfl := si hg
  exact fin1 (fn := Tryz.f140) s q (r_tmp s q) q
 have d0 := decide_eq_false b0
 replace hg := br_f hg b0
 refine S s<|lw<|mw q<|yw q (fun s => yl_b (y_eql s q q) c0)<|mw q<|hw q<|zw q (fun s => yl_b (y_eql s q q) d0)<|fw q<|mw q<|hw q<|zw q (y_eql · q q)<|fw q<|aw q<|nw fun a s => ?_
 apply wp_ret
 obtain rfl := si hg
 exact fin1 (fn := Tryz.f140) s q (r_tmp s q) q
set_option maxHeartbeats 1000000 in
theorem c_r19_kids (n : Nat) (M : Bs) (w0 : World) (hM : ∀ b, M b → b < w0.heap.size) (d_ : Desc) (b0 : Option Addr) (d0 : Nat) (c0 : Option Addr) (e0 : Nat) (I0 : (d_.Name).length ≤ 9223372036854775807) (x0 : sR Rep.str M w0 b0 d0 d_.Path) (y0 : sR RDesc M w0 c0 e0 d_.Kids) (r : Bool) (hg : r19_kids n d_ = some r) :
    Calls Tryz.prog 141 [.agg #[.int .i64 (d_.Op), vT d_.Name, sl b0 d_.Path d0, sl c0 d_.Kids e0]].toArray w0 (Ret noB w0 fun v w => v = .bool (r)) := by
 unfold r19_kids at hg
 refine enter M noB func141 q q hM ?_
 intro a s
 let F : Al Fact := [(101, sF Rep.str b0 d0 d_.Path), (102, sF RDesc c0 e0 d_.Kids)]
 refine S s<|esw 101 x0<|esw 102 y0<|vw fun a s => ?_
 refine l_seq q (l_box (zs := [vI d_.Op, vT d_.Name, sl b0 d_.Path d0, sl c0 d_.Kids e0]) s 1000 q q q q fun b2 a w hb hK s => ?_)
 refine S s<|aw q<|nw<|vw<|yw q (bF 3 · u60 q)<|yw q (lB 1000 · u58 q)<|yw q (lS · q u58)<|aw q<|nw<|sw<|vw<|yw q (bF 0 · u60 q)<|yw q (lB 1000 · u3 q)<|nw<|bw<|sw<|vw<|yw q (y_eql · q q)<|aw q<|nw fun a s => ?_
 obtain ⟨k3, hg, t0⟩ := jn_some hg
 refine c_post (fun a w => ∃ (o0 : Bool), k3 o0 = some r ∧ St (cx f141 M w0) [(1, vP b2 0), (3, vI ((((d_.Kids).length : Nat) : Int))), (9, vI d_.Op), (10, .bool (o0))] [(1000, Ob.box b2 [vI d_.Op, vT d_.Name, sl b0 d_.Path d0, sl c0 d_.Kids e0] 60)] F a w) ?_ ?_
 ·refine c_dec s q (fun j0 => ?_) (fun j0 => ?_)
  ·replace hg := br_t hg j0
   apply wp_skip
   apply pN
   exact ⟨(decide (d_.Op = 1)), hg, (s.sb q q q)⟩
  replace hg := br_f hg j0
  refine S s<|vw<|yw q (y_eql · q q)<|aw q<|nw fun a s => c_dec s q (fun k0 => ?_) (fun k0 => ?_)
  ·replace hg := br_t hg k0
   apply wp_skip
   apply pN
   exact ⟨(decide (d_.Op = 2)), hg, (s.sb q q q)⟩
  replace hg := br_f hg k0
  refine S s<|lw<|yw q (y_eql · q q)<|aw q<|nw fun a s => ?_
  exact ⟨(decide (d_.Op = 3)), hg, (s.sb q q q)⟩
 clear s a; rintro a w ⟨o0, hg, s⟩
 subst t0
 refine c_cond s q (fun l0 => ?_) (fun l0 => ?_)
 ·replace hg := br_t hg l0
  refine S s<|vw<|mw q<|yw q (y_eqlN (i := ((d_.Kids).length)) (j := 0) · q q)<|aw q<|nw fun a s => ?_
  apply wp_ret
  refine p_inR ?_
  refine p_thenR ?_
  obtain rfl := si hg
  exact fin1 (fn := Tryz.f141) s q (r_tmp s q) q
 replace hg := br_n hg l0
 refine S s<|vw<|yw q (y_eql · q q)<|aw q<|nw fun a s => c_dec s q (fun m0 => ?_) (fun m0 => ?_)
 ·replace hg := br_t hg m0
  refine S s<|vw<|mw q<|yw q (y_eqlN (i := ((d_.Kids).length)) (j := 1) · q q)<|aw q<|nw fun a s => ?_
  apply wp_ret
  refine p_inR ?_
  refine p_thenR ?_
  obtain rfl := si hg
  exact fin1 (fn := Tryz.f141) s q (r_tmp s q) q
 replace hg := br_f hg m0
 refine S s<|vw<|yw q (y_eql · q q)<|aw q<|nw fun a s => c_dec s q (fun n0 => ?_) (fun n0 => ?_)
 ·replace hg := br_t hg n0
  refine S s<|vw<|mw q<|yw q (y_geqN (i := ((d_.Kids).length)) (j := 2) · q q)<|aw q<|nw fun a s => ?_
  apply wp_ret
  refine p_inR ?_
  refine p_thenR ?_
  obtain rfl := si hg
  exact fin1 (fn := Tryz.f141) s q (r_tmp s q) q
 replace hg := br_f hg n0
 refine S s<|vw<|yw q (y_eql · q q)<|aw q<|nw fun a s => c_dec s q (fun g0 => ?_) (fun g0 => ?_)
 ·replace hg := br_t hg g0
  refine S s<|sw<|vw<|aw q<|nw<|bw fun a s => ?_
  refine c_loop (σ := Nat) (fun m1 a w => ∃ (a0 : Nat), r19_kids_L0 n d_ m1 a0 = some r ∧ St (cx f141 M w0) [(1, vP b2 0), (3, vI ((((d_.Kids).length : Nat) : Int))), (4, vI (((a0 : Nat) : Int)))] [(1000, Ob.box b2 [vI d_.Op, vT d_.Name, sl b0 d_.Path d0, sl c0 d_.Kids e0] 60)] F a w) (fun m1 => m1) n ⟨(0), hg, (s.sb q q q)⟩ ?_
  clear s a; rintro m1 a w ⟨a0, hg, s⟩
  rcases m1 with _ | m1
  ·rw [r19_kids_L0] at hg; cases hg
  rw [r19_kids_L0] at hg
  refine S s<|sw<|vw<|mw q<|mw q<|yw q (y_lssN (i := a0) (j := ((d_.Kids).length)) · q q)<|nw fun a s => c_dec s q (fun h0 => ?_) (fun h0 => ?_)
  ·replace hg := br_t hg h0
   have H0 := SlR.mx (s.ft 102 q)
   obtain ⟨L0, p0, hg⟩ := bind_some hg
   refine S s<|kw<|pw<|sw<|bw<|sw<|lw<|yw q (bF 3 · u60 q)<|yw q (lB 1000 · u58 q)<|mw q fun a s => ?_
   obtain ⟨K0, s0, u0, v0, G0, r0, q0⟩ := SlR.elemX (s.ft 102 q) p0
   refine S s<|yw q (eL 4 a0 · u58 s0 (lt_of_get p0) q)<|yw q (pF 0 · u60 q) fun a s => ?_
   obtain ⟨C0, E0, D0, F0, rfl, J0, z0, B0⟩ := RDesc.open r0
   refine S s<|nsw 105 z0<|nsw 106 B0<|yw q (lP · u0 v0 (q0 0 _ q) u3 q)<|yw q (y_eql · q q)<|nw fun a s => c_dec s q (fun i0 => ?_) (fun i0 => ?_)
   ·replace hg := br_t hg i0
    refine S s<|vw<|aw q<|nw fun a s => ?_
    apply wp_ret
    refine p_inR ?_
    refine p_thenR ?_
    refine p_thenR ?_
    refine p_inR ?_
    refine p_thenR ?_
    refine p_inR ?_
    refine p_thenR ?_
    obtain rfl := si hg
    exact fin1 (fn := Tryz.f141) s q (r_tmp s q) q
   replace hg := br_f hg i0
   apply wp_skip
   refine p_inN ?_
   refine S s<|pw<|lw<|mw q<|yw q (y_addN (i := a0) (j := 1) · q q (in64.2 (by omega)))<|aw q<|nw fun a s => ?_
   exact ⟨m1, Nat.lt_succ_self _, ⟨(a0 + 1), hg, (s.sb q q q)⟩⟩
  replace hg := br_f hg h0
  apply wp_exit
  refine p_then ?_
  refine p_then ?_
  refine p_in ?_
  refine S s<|pw<|vw<|mw q<|yw q (y_geqN (i := ((d_.Kids).length)) (j := 2) · q q)<|aw q<|nw fun a s => ?_
  apply wp_ret
  refine p_inR ?_
  refine p_thenR ?_
  obtain rfl := si hg
  exact fin1 (fn := Tryz.f141) s q (r_tmp s q) q
 replace hg := br_f hg g0
 apply wp_skip
 refine p_inN ?_
 refine S s<|pw<|vw<|aw q<|nw fun a s => ?_
 apply wp_ret
 obtain rfl := si hg
 exact fin1 (fn := Tryz.f141) s q (r_tmp s q) q
set_option maxHeartbeats 1000000 in
theorem c_r19_formed (n : Nat) (M : Bs) (w0 : World) (hM : ∀ b, M b → b < w0.heap.size) (d_ : Desc) (a0 : Option Addr) (c0 : Nat) (b0 : Option Addr) (d0 : Nat) (G0 : (d_.Name).length ≤ 9223372036854775807) (z0 : sR Rep.str M w0 a0 c0 d_.Path) (B0 : sR RDesc M w0 b0 d0 d_.Kids) (r : Bool) (hg : r19_formed n d_ = some r) :
    Calls Tryz.prog 139 [.agg #[.int .i64 (d_.Op), vT d_.Name, sl a0 d_.Path c0, sl b0 d_.Kids d0]].toArray w0 (Ret noB w0 fun v w => v = .bool (r)) := by
 unfold r19_formed at hg
 refine enter M noB func139 q q hM ?_
 intro a s
 let F : Al Fact := [(101, sF Rep.str a0 c0 d_.Path), (102, sF RDesc b0 d0 d_.Kids)]
 refine S s<|esw 101 z0<|esw 102 B0<|vw fun a s => ?_
 refine l_seq q (l_box (zs := [vI d_.Op, vT d_.Name, sl a0 d_.Path c0, sl b0 d_.Kids d0]) s 1000 q q q q fun b2 a w hb hK s => ?_)
 refine S s<|aw q<|nw<|sw<|sw fun a s => ?_
 obtain ⟨k3, hg, u0⟩ := jn_some hg
 refine c_post (fun a w => ∃ (o0 : Bool), k3 o0 = some r ∧ St (cx f139 M w0) [(1, vP b2 0), (21, .bool (o0))] [(1000, Ob.box b2 [vI d_.Op, vT d_.Name, sl a0 d_.Path c0, sl b0 d_.Kids d0] 60)] F a w) ?_ ?_
 ·obtain ⟨r5, h0, hg⟩ := bind_some hg
  obtain ⟨r8, n0, hg⟩ := bind_some hg
  rcases Bool.eq_false_or_eq_true (!(r5 == r8)) with g0 | g0
  ·replace hg := br_t hg g0
   refine d_plan s [] [(0, some 0), (1, some 1000), (3, some 0), (4, some 1000), (2, none), (5, none), (6, none), (7, none), (8, none), (9, none), (10, none), (11, none), (12, none), (13, none), (14, none), (15, none), (16, none), (17, none)] q (by kernel_rfl) (by kernel_rfl) q ?_; clear s; intro wr hZ s; have hR := s.wd
   refine S s<|qw hR q (bF 0 · u60 q)<|qw hR q (lB 1000 · u3 q)<|qw hR q (bF 1 · u60 q)<|qw hR q (lB 1000 · u9 q) fun a s => ?_
   refine l_take s q q (l_call (cap := []) s q func140 q (by kernel_rfl) q q (c_r19_leaf n _ _ s.lt _ _ h0) fun L0 a w hK hp s => ?_)
   refine gz hZ hK fun hZ => ?_; clear hK
   obtain rfl := hp
   refine l_take s q q (l_call (cap := []) s q func77 q (by kernel_rfl) q q (c_r01_Name n _ _ s.lt _ (by omega) _ n0) fun M0 a w hK hp s => ?_)
   refine gz hZ hK fun hZ => ?_; clear hK
   obtain rfl := hp
   refine S s<|tw q (fun s => yl_b (y_bne s q q u4) g0)<|tw q (mo · q) fun a s => ?_
   refine l_pass s q ⟨_, _, _, q, q, q, q⟩ q q fun a s => ?_
   refine l_pass s q ⟨_, _, _, q, q, q, q⟩ q q fun a s => ?_
   refine l_pass s q ⟨_, _, _, q, q, q, q⟩ q q fun a s => ?_
   refine l_pass s q ⟨_, _, _, q, q, q, q⟩ q q fun a s => ?_
   refine l_pass s q ⟨_, _, _, q, q, q, q⟩ q q fun a s => ?_
   refine l_pass s q ⟨_, _, _, q, q, q, q⟩ q q fun a s => ?_
   refine l_pass s q ⟨_, _, _, q, q, q, q⟩ q q fun a s => ?_
   refine l_pass s q ⟨_, _, _, q, q, q, q⟩ q q fun a s => ?_
   refine l_pass s q ⟨_, _, _, q, q, q, q⟩ q q fun a s => ?_
   refine S s<|tw q (pT · q q) fun a s => ?_
   clear hR hZ
   apply pN
   exact ⟨(true), hg, (s.sb q q q)⟩
  replace hg := br_n hg g0
  rcases Bool.eq_false_or_eq_true (!(r5)) with i0 | i0
  ·replace hg := br_t hg i0
   refine d_plan s [] [(0, some 0), (1, some 1000), (3, some 0), (4, some 1000), (2, none), (5, none), (6, none), (7, none), (8, none), (9, none), (10, none), (11, none), (12, none), (13, none), (14, none), (15, none), (16, none), (17, none)] q (by kernel_rfl) (by kernel_rfl) q ?_; clear s; intro wr hZ s; have hR := s.wd
   refine S s<|qw hR q (bF 0 · u60 q)<|qw hR q (lB 1000 · u3 q)<|qw hR q (bF 1 · u60 q)<|qw hR q (lB 1000 · u9 q) fun a s => ?_
   refine l_take s q q (l_call (cap := []) s q func140 q (by kernel_rfl) q q (c_r19_leaf n _ _ s.lt _ _ h0) fun O0 a w hK hp s => ?_)
   refine gz hZ hK fun hZ => ?_; clear hK
   obtain rfl := hp
   refine l_take s q q (l_call (cap := []) s q func77 q (by kernel_rfl) q q (c_r01_Name n _ _ s.lt _ (by omega) _ n0) fun P0 a w hK hp s => ?_)
   refine gz hZ hK fun hZ => ?_; clear hK
   obtain rfl := hp
   refine S s<|tw q (fun s => yl_b (y_bne s q q u4) g0)<|tw q (mo · q)<|tw q (bF 0 · u60 q)<|tw q (lB 1000 · u3 q) fun a s => ?_
   refine l_take s q ⟨_, _, _, q, q, q, q⟩ (l_call (cap := []) s q func140 q (by kernel_rfl) q q (c_r19_leaf n _ _ s.lt _ _ h0) fun Q0 a w hK hp s => ?_)
   refine gz hZ hK fun hZ => ?_; clear hK
   obtain rfl := hp
   refine S s<|tw q (fun s => yl_b (y_not s q) i0)<|tw q (mo · q)<|tw q (bF 1 · u60 q)<|tw q (lB 1000 · u9 q)<|tw q (y_sne · q q)<|tw q (pT · q q)<|tw q (pO · q q) fun a s => ?_
   clear hR hZ
   apply pN
   exact ⟨(decide ((d_.Name : List UInt8) ≠ [])), hg, (s.sb q q q)⟩
  replace hg := br_n hg i0
  refine d_plan s [] [(0, some 0), (1, some 1000), (3, some 0), (4, some 1000), (2, none), (5, none), (6, none), (7, none), (8, none), (9, none), (10, none), (11, none), (12, none), (13, none), (14, none), (15, none), (16, none), (17, none)] q (by kernel_rfl) (by kernel_rfl) q ?_; clear s; intro wr hZ s; have hR := s.wd
  refine S s<|qw hR q (bF 0 · u60 q)<|qw hR q (lB 1000 · u3 q)<|qw hR q (bF 1 · u60 q)<|qw hR q (lB 1000 · u9 q) fun a s => ?_
  refine l_take s q q (l_call (cap := []) s q func140 q (by kernel_rfl) q q (c_r19_leaf n _ _ s.lt _ _ h0) fun R0 a w hK hp s => ?_)
  refine gz hZ hK fun hZ => ?_; clear hK
  obtain rfl := hp
  refine l_take s q q (l_call (cap := []) s q func77 q (by kernel_rfl) q q (c_r01_Name n _ _ s.lt _ (by omega) _ n0) fun S0 a w hK hp s => ?_)
  refine gz hZ hK fun hZ => ?_; clear hK
  obtain rfl := hp
  refine S s<|tw q (fun s => yl_b (y_bne s q q u4) g0)<|tw q (mo · q)<|tw q (bF 0 · u60 q)<|tw q (lB 1000 · u3 q) fun a s => ?_
  refine l_take s q ⟨_, _, _, q, q, q, q⟩ (l_call (cap := []) s q func140 q (by kernel_rfl) q q (c_r19_leaf n _ _ s.lt _ _ h0) fun T0 a w hK hp s => ?_)
  refine gz hZ hK fun hZ => ?_; clear hK
  obtain rfl := hp
  refine S s<|tw q (fun s => yl_b (y_not s q) i0)<|tw q (mo · q) fun a s => ?_
  refine l_pass s q ⟨_, _, _, q, q, q, q⟩ q q fun a s => ?_
  refine l_pass s q ⟨_, _, _, q, q, q, q⟩ q q fun a s => ?_
  refine l_pass s q ⟨_, _, _, q, q, q, q⟩ q q fun a s => ?_
  refine S s<|tw q (pO · q q)<|tw q (pO · q q) fun a s => ?_
  clear hR hZ
  apply pN
  exact ⟨(false), hg, (s.sb q q q)⟩
 clear s a; rintro a w ⟨o0, hg, s⟩
 subst u0
 refine c_cond s q (fun j0 => ?_) (fun j0 => ?_)
 ·replace hg := br_t hg j0
  refine S s<|vw<|aw q<|nw fun a s => ?_
  apply wp_ret
  refine p_thenR ?_
  obtain rfl := si hg
  exact fin1 (fn := Tryz.f139) s q (r_tmp s q) q
 replace hg := br_n hg j0
 refine S s<|kw<|pw<|sw<|vw<|yw q (bF 0 · u60 q)<|yw q (lB 1000 · u3 q)<|yw q (y_eql · q q)<|yw q (bF 2 · u60 q)<|yw q (lB 1000 · u25 q)<|yw q (lS · q u25)<|yw q (y_gtrN (i := ((d_.Path).length)) (j := 0) · q q)<|yw q (y_bne · q q u4)<|nw fun a s => c_cond s q (fun k0 => ?_) (fun k0 => ?_)
 ·replace hg := br_t hg k0
  refine S s<|vw<|aw q<|nw fun a s => ?_
  apply wp_ret
  refine p_thenR ?_
  obtain rfl := si hg
  exact fin1 (fn := Tryz.f139) s q (r_tmp s q) q
 replace hg := br_n hg k0
 refine S s<|kw<|pw<|sw<|vw<|aw q<|nw fun a s => ?_
 obtain ⟨q0, hg, v0⟩ := jn_some hg
 refine c_post (fun a w => q0 = some r ∧ St (cx f139 M w0) [(1, vP b2 0)] [(1000, Ob.box b2 [vI d_.Op, vT d_.Name, sl a0 d_.Path c0, sl b0 d_.Kids d0] 60)] F a w) ?_ ?_
 ·apply wp_block
  refine c_loop (σ := Nat) (fun m1 a w => ∃ (e0 : Nat), r19_formed_L0 n d_ q0 m1 e0 = some r ∧ St (cx f139 M w0) [(1, vP b2 0), (3, vI (((e0 : Nat) : Int)))] [(1000, Ob.box b2 [vI d_.Op, vT d_.Name, sl a0 d_.Path c0, sl b0 d_.Kids d0] 60)] F a w) (fun m1 => m1) n ⟨(0), hg, (s.sb q q q)⟩ ?_
  clear s a; rintro m1 a w ⟨e0, hg, s⟩
  rcases m1 with _ | m1
  ·rw [r19_formed_L0] at hg; cases hg
  rw [r19_formed_L0] at hg
  refine S s<|sw<|vw<|mw q<|yw q (bF 2 · u60 q)<|yw q (lB 1000 · u25 q)<|yw q (lS · q u25)<|yw q (y_lssN (i := e0) (j := ((d_.Path).length)) · q q)<|nw fun a s => c_dec s q (fun l0 => ?_) (fun l0 => ?_)
  ·replace hg := br_t hg l0
   have F0 := SlR.mx (s.ft 101 q)
   obtain ⟨U0, p0, hg⟩ := bind_some hg
   obtain ⟨J0, C0, hg⟩ := bind_some hg
   refine S s<|kw<|pw<|sw<|bw<|sw<|lw<|yw q (bF 2 · u60 q)<|yw q (lB 1000 · u25 q)<|mw q fun a s => ?_
   obtain ⟨I0, t0, x0, y0, E0, s0, r0⟩ := SlR.elemX (s.ft 101 q) p0
   refine qq s q (eL 1 e0 s u25 t0 (lt_of_get p0) q) fun a s => ?_
   obtain ⟨rfl, H0⟩ := s0
   refine qq s q (lP s x0 y0 (r0 0 _ q) u9 q) fun a s => ?_
   refine lV s q func111 (c_r01_Feature n _ _ s.lt _ (by omega) _ C0) fun a w hK s => ?_
   refine S s<|yw q (y_not · q)<|nw fun a s => c_cond s q (fun m0 => ?_) (fun m0 => ?_)
   ·replace hg := br_t hg m0
    refine S s<|vw<|aw q<|nw fun a s => ?_
    apply wp_ret
    refine p_inR ?_
    refine p_thenR ?_
    refine p_thenR ?_
    refine p_inR ?_
    refine p_thenR ?_
    obtain rfl := si hg
    exact fin1 (fn := Tryz.f139) s q (r_tmp s q) q
   replace hg := br_n hg m0
   apply wp_skip
   refine p_inN ?_
   refine S s<|pw<|lw<|mw q<|yw q (y_addN (i := e0) (j := 1) · q q (in64.2 (by omega)))<|aw q<|nw fun a s => ?_
   exact ⟨m1, Nat.lt_succ_self _, ⟨(e0 + 1), hg, (s.sb q q q)⟩⟩
  replace hg := br_f hg l0
  apply wp_exit
  refine p_then ?_
  refine p_then ?_
  refine p_in ?_
  apply pN
  exact ⟨hg, (s.sb q q q)⟩
 clear s a; rintro a w ⟨hg, s⟩
 subst v0
 obtain ⟨K0, D0, hg⟩ := bind_some hg
 refine S s<|sw<|lw<|yw q (y_loadAll (kk := 1000) · q q u60 q q) fun a s => ?_
 refine lV s q func141 (c_r19_kids n _ _ s.lt _ _ _ _ _ (by omega) (s.ft 101 q) (s.ft 102 q) _ D0) fun a w hK s => ?_
 refine S s<|aw q<|nw fun a s => ?_
 apply wp_ret
 obtain rfl := si hg
 exact fin1 (fn := Tryz.f139) s q (r_tmp s q) q
set_option maxHeartbeats 1000000 in
theorem c_r19_check (n : Nat) : ∀ (M : Bs) (w0 : World) (hM : ∀ b, M b → b < w0.heap.size) (d_ : Desc) (a0 : Option Addr) (c0 : Nat) (b0 : Option Addr) (d0 : Nat) (P0 : (d_.Name).length ≤ 9223372036854775807) (v0 : sR Rep.str M w0 a0 c0 d_.Path) (x0 : sR RDesc M w0 b0 d0 d_.Kids) (level_ : Int) (r : Int) (hg : r19_check n d_ level_ = some r),
    Calls Tryz.prog 137 [.agg #[.int .i64 (d_.Op), vT d_.Name, sl a0 d_.Path c0, sl b0 d_.Kids d0], .int .i64 (level_)].toArray w0 (Ret noB w0 fun v w => v = .int .i64 (r)) := by
 induction n with
 | zero => intros; rename_i hg; rw [r19_check] at hg; cases hg
 | succ n c_self =>
 intro M w0 hM d_ a0 c0 b0 d0 P0 v0 x0 level_ r hg
 rw [r19_check] at hg
 refine enter M noB func137 q q hM ?_
 intro a s
 let F : Al Fact := [(101, sF Rep.str a0 c0 d_.Path), (102, sF RDesc b0 d0 d_.Kids)]
 refine S s<|esw 101 v0<|esw 102 x0<|vw fun a s => ?_
 refine l_seq q (l_box (zs := [vI d_.Op, vT d_.Name, sl a0 d_.Path c0, sl b0 d_.Kids d0]) s 1000 q q q q fun b2 a w hb hK s => ?_)
 refine S s<|aw q<|nw<|sw<|sw fun a s => ?_
 obtain ⟨k3, hg, F0⟩ := jn_some hg
 refine c_post (fun a w => ∃ (u0 : Bool), k3 u0 = some r ∧ St (cx f137 M w0) [(1, vI level_), (2, vP b2 0), (21, .bool (u0))] [(1000, Ob.box b2 [vI d_.Op, vT d_.Name, sl a0 d_.Path c0, sl b0 d_.Kids d0] 60)] F a w) ?_ ?_
 ·rcases Decidable.em ((64 : Int) < level_) with h0 | h0
  ·have k0 := decide_eq_true h0
   replace hg := br_t hg h0
   refine S s<|lw<|mw q<|yw q (fun s => yl_b (y_gtr s q q) k0)<|mw q<|gw q<|gw q<|gw q<|gw q<|tw_ q<|mw q<|gw q<|gw q<|gw q<|gw q<|tw_ q<|nw fun a s => ?_
   exact ⟨(true), hg, (s.sb q q q)⟩
  have k0 := decide_eq_false h0
  replace hg := br_f hg h0
  rcases Decidable.em ((64 : Nat) < ((d_.Path).length)) with i0 | i0
  ·have s0 := decide_eq_true i0
   replace hg := br_t hg i0
   have X0 := SlR.mx (s.ft 101 q)
   refine S s<|lw<|mw q<|yw q (fun s => yl_b (y_gtr s q q) k0)<|mw q<|zw q (bF 2 · u60 q)<|zw q (lB 1000 · u25 q)<|zw q (lS · q u25)<|zw q (fun s => yl_b (y_gtrN (i := ((d_.Path).length)) (j := 64) s q q) s0)<|fw q<|mw q<|gw q<|gw q<|gw q<|gw q<|tw_ q<|nw fun a s => ?_
   exact ⟨(true), hg, (s.sb q q q)⟩
  have s0 := decide_eq_false i0
  replace hg := br_f hg i0
  refine S s<|lw<|mw q<|yw q (fun s => yl_b (y_gtr s q q) k0)<|mw q<|zw q (bF 2 · u60 q)<|zw q (lB 1000 · u25 q)<|zw q (lS · q u25)<|zw q (fun s => yl_b (y_gtrN (i := ((d_.Path).length)) (j := 64) s q q) s0)<|fw q<|mw q<|zw q (bF 3 · u60 q)<|zw q (lB 1000 · u58 q)<|zw q (lS · q u58)<|zw q (y_gtrN (i := ((d_.Kids).length)) (j := 256) · q q)<|fw q<|nw fun a s => ?_
  exact ⟨(decide ((256 : Nat) < ((d_.Kids).length))), hg, (s.sb q q q)⟩
 clear s a; rintro a w ⟨u0, hg, s⟩
 subst F0
 refine c_cond s q (fun q0 => ?_) (fun q0 => ?_)
 ·replace hg := br_t hg q0
  refine S s<|vw<|aw q<|nw fun a s => ?_
  apply wp_ret
  refine p_thenR ?_
  obtain rfl := si hg
  exact fin1 (fn := Tryz.f137) s q (r_tmp s q) q
 replace hg := br_n hg q0
 apply wp_skip
 apply pN
 apply wQ
 apply wQ
 obtain ⟨k9, hg, G0⟩ := jn_some hg
 refine c_post (fun a w => ∃ (t0 : Bool), k9 t0 = some r ∧ St (cx f137 M w0) [(1, vI level_), (2, vP b2 0), (29, .bool (t0))] [(1000, Ob.box b2 [vI d_.Op, vT d_.Name, sl a0 d_.Path c0, sl b0 d_.Kids d0] 60)] F a w) ?_ ?_
 ·rcases Decidable.em (d_.Op < 1) with g0 | g0
  ·have r0 := decide_eq_true g0
   replace hg := br_t hg g0
   refine S s<|lw<|yw q (bF 0 · u60 q)<|yw q (lB 1000 · u3 q)<|yw q (fun s => yl_b (y_lss s q q) r0)<|mw q<|gw q<|gw q<|gw q<|tw_ q<|nw fun a s => ?_
   exact ⟨(true), hg, (s.sb q q q)⟩
  have r0 := decide_eq_false g0
  replace hg := br_f hg g0
  refine S s<|lw<|yw q (bF 0 · u60 q)<|yw q (lB 1000 · u3 q)<|yw q (fun s => yl_b (y_lss s q q) r0)<|mw q<|zw q (bF 0 · u60 q)<|zw q (lB 1000 · u3 q)<|zw q (y_gtr · q q)<|fw q<|nw fun a s => ?_
  exact ⟨(decide ((8 : Int) < d_.Op)), hg, (s.sb q q q)⟩
 clear s a; rintro a w ⟨t0, hg, s⟩
 subst G0
 refine c_cond s q (fun l0 => ?_) (fun l0 => ?_)
 ·replace hg := br_t hg l0
  refine S s<|vw<|aw q<|nw fun a s => ?_
  apply wp_ret
  refine p_thenR ?_
  obtain rfl := si hg
  exact fin1 (fn := Tryz.f137) s q (r_tmp s q) q
 replace hg := br_n hg l0
 obtain ⟨a1, L0, hg⟩ := bind_some hg
 refine S s<|kw<|pw<|sw<|sw<|lw<|yw q (y_loadAll (kk := 1000) · q q u60 q q) fun a s => ?_
 refine lV s q func139 (c_r19_formed n _ _ s.lt _ _ _ _ _ (by omega) (s.ft 101 q) (s.ft 102 q) _ L0) fun a w hK s => ?_
 refine S s<|yw q (y_not · q)<|nw fun a s => c_cond s q (fun m0 => ?_) (fun m0 => ?_)
 ·replace hg := br_t hg m0
  refine S s<|vw<|aw q<|nw fun a s => ?_
  apply wp_ret
  refine p_thenR ?_
  obtain rfl := si hg
  exact fin1 (fn := Tryz.f137) s q (r_tmp s q) q
 replace hg := br_n hg m0
 obtain ⟨D0, hg⟩ := chk_some hg
 refine S s<|kw<|pw<|sw<|lw<|mw q<|yw q (y_add · q q (in64.2 D0))<|aw q<|nw<|sw<|vw<|yw q (bF 0 · u60 q)<|yw q (lB 1000 · u3 q)<|yw q (y_eql · q q)<|nw fun a s => ?_
 obtain ⟨O0, hg, E0⟩ := jn_some hg
 refine c_post (fun a w => ∃ (j0 : Int), O0 j0 = some r ∧ St (cx f137 M w0) [(2, vP b2 0), (5, vI j0)] [(1000, Ob.box b2 [vI d_.Op, vT d_.Name, sl a0 d_.Path c0, sl b0 d_.Kids d0] 60)] F a w) ?_ ?_
 ·refine c_dec s q (fun n0 => ?_) (fun n0 => ?_)
  ·replace hg := br_t hg n0
   refine S s<|lw<|mw q<|aw q<|nw fun a s => ?_
   exact ⟨(level_), hg, (s.sb q q q)⟩
  replace hg := br_f hg n0
  apply wp_skip
  apply pN
  exact ⟨(level_ + 1), hg, (s.sb q q q)⟩
 clear s a; rintro a w ⟨j0, hg, s⟩
 subst E0
 refine S s<|sw<|vw<|aw q<|nw<|bw fun a s => ?_
 refine c_loop (σ := Nat) (fun m1 a w => ∃ (e0 : Nat), r19_check_L0 n d_ (r19_check n) j0 m1 e0 = some r ∧ St (cx f137 M w0) [(2, vP b2 0), (5, vI j0), (6, vI (((e0 : Nat) : Int)))] [(1000, Ob.box b2 [vI d_.Op, vT d_.Name, sl a0 d_.Path c0, sl b0 d_.Kids d0] 60)] F a w) (fun m1 => m1) n ⟨(0), hg, (s.sb q q q)⟩ ?_
 clear s a; rintro m1 a w ⟨e0, hg, s⟩
 rcases m1 with _ | m1
 ·rw [r19_check_L0] at hg; cases hg
 rw [r19_check_L0] at hg
 refine S s<|sw<|vw<|mw q<|yw q (bF 3 · u60 q)<|yw q (lB 1000 · u58 q)<|yw q (lS · q u58)<|yw q (y_lssN (i := e0) (j := ((d_.Kids).length)) · q q)<|nw fun a s => c_dec s q (fun o0 => ?_) (fun o0 => ?_)
 ·replace hg := br_t hg o0
  have V0 := SlR.mx (s.ft 102 q)
  obtain ⟨c1, y0, hg⟩ := bind_some hg
  obtain ⟨b1, M0, hg⟩ := bind_some hg
  refine S s<|kw<|pw<|sw<|bw<|sw<|lw<|yw q (bF 3 · u60 q)<|yw q (lB 1000 · u58 q)<|mw q fun a s => ?_
  obtain ⟨Z0, C0, H0, I0, U0, B0, z0⟩ := SlR.elemX (s.ft 102 q) y0
  refine qq s q (eL 4 e0 s u58 C0 (lt_of_get y0) q) fun a s => ?_
  obtain ⟨Q0, S0, R0, T0, rfl, Y0, J0, K0⟩ := RDesc.open B0
  refine S s<|nsw 105 J0<|nsw 106 K0<|yw q (y_ldp · q H0 I0 (by simpa using z0) u60 q q)<|mw q fun a s => ?_
  refine lV s q func137 (c_self _ _ s.lt _ _ _ _ _ (by omega) (s.ft 105 q) (s.ft 106 q) _ _ M0) fun a w hK s => ?_
  refine S s<|aw q<|nw<|vw<|mw q<|yw q (y_neq · q q)<|nw fun a s => c_dec s q (fun p0 => ?_) (fun p0 => ?_)
  ·replace hg := br_t hg p0
   refine S s<|vw<|mw q<|aw q<|nw fun a s => ?_
   apply wp_ret
   refine p_inR ?_
   refine p_thenR ?_
   refine p_thenR ?_
   refine p_inR ?_
   refine p_thenR ?_
   obtain rfl := si hg
   exact fin1 (fn := Tryz.f137) s q (r_tmp s q) q
  replace hg := br_f hg p0
  apply wp_skip
  refine p_inN ?_
  refine S s<|pw<|lw<|mw q<|yw q (y_addN (i := e0) (j := 1) · q q (in64.2 (by omega)))<|aw q<|nw fun a s => ?_
  exact ⟨m1, Nat.lt_succ_self _, ⟨(e0 + 1), hg, (s.sb q q q)⟩⟩
 replace hg := br_f hg o0
 apply wp_exit
 refine p_then ?_
 refine p_then ?_
 refine p_in ?_
 refine S s<|pw<|vw<|aw q<|nw fun a s => ?_
 apply wp_ret
 obtain rfl := si hg
 exact fin1 (fn := Tryz.f137) s q (r_tmp s q) q
set_option maxHeartbeats 1000000 in
theorem c_r19_Check (n : Nat) (M : Bs) (w0 : World) (hM : ∀ b, M b → b < w0.heap.size) (d_ : Desc) (a0 : Option Addr) (c0 : Nat) (b0 : Option Addr) (d0 : Nat) (i0 : (d_.Name).length ≤ 9223372036854775807) (e0 : sR Rep.str M w0 a0 c0 d_.Path) (g0 : sR RDesc M w0 b0 d0 d_.Kids) (r : Int) (hg : r19_Check n d_ = some r) :
    Calls Tryz.prog 129 [.agg #[.int .i64 (d_.Op), vT d_.Name, sl a0 d_.Path c0, sl b0 d_.Kids d0]].toArray w0 (Ret noB w0 fun v w => v = .int .i64 (r)) := by
 unfold r19_Check at hg
 refine enter M noB func129 q q hM ?_
 intro a s
 refine S s<|esw 101 e0<|esw 102 g0<|vw fun a s => ?_
 refine l_seq q (l_box (zs := [vI d_.Op, vT d_.Name, sl a0 d_.Path c0, sl b0 d_.Kids d0]) s 1000 q q q q fun b2 a w hb hK s => ?_)
 obtain ⟨r3, h0, hg⟩ := bind_some hg
 refine S s<|aw q<|nw<|sw<|lw<|yw q (y_loadAll (kk := 1000) · q q u60 q q) fun a s => ?_
 refine lV s q func137 (c_r19_check n _ _ s.lt _ _ _ _ _ (by omega) (s.ft 101 q) (s.ft 102 q) _ _ h0) fun a w hK s => ?_
 refine S s<|aw q<|nw fun a s => ?_
 apply wp_ret
 obtain rfl := si hg
 exact fin1 (fn := Tryz.f129) s q (r_tmp s q) q
set_option maxHeartbeats 1000000 in
theorem c_r21_defError (n : Nat) (M : Bs) (w0 : World) (hM : ∀ b, M b → b < w0.heap.size) (x_ : Def) (b0 : Option Addr) (d0 : Nat) (c0 : Option Addr) (e0 : Nat) (i0 : Option Addr) (j0 : Nat) (S0 : (x_.Name).length ≤ 9223372036854775807) (T0 : (x_.Strict.Name).length ≤ 9223372036854775807) (x0 : sR Rep.str M w0 b0 d0 x_.Strict.Path) (y0 : sR RDesc M w0 c0 e0 x_.Strict.Kids) (z0 : sR RDesc M w0 i0 j0 x_.Defaults) (r : Int) (hg : r21_defError n x_ = some r) :
    Calls Tryz.prog 113 [.agg #[vT x_.Name, .int .i64 (x_.Strict.Op), vT x_.Strict.Name, sl b0 x_.Strict.Path d0, sl c0 x_.Strict.Kids e0, sl i0 x_.Defaults j0]].toArray w0 (Ret noB w0 fun v w => v = .int .i64 (r)) := by
 unfold r21_defError at hg
 refine enter M noB func113 q q hM ?_
 intro a s
 let F : Al Fact := [(101, sF Rep.str b0 d0 x_.Strict.Path), (102, sF RDesc c0 e0 x_.Strict.Kids), (103, sF RDesc i0 j0 x_.Defaults)]
 let B : List Value := [vT x_.Name, vI x_.Strict.Op, vT x_.Strict.Name, sl b0 x_.Strict.Path d0, sl c0 x_.Strict.Kids e0, sl i0 x_.Defaults j0]
 refine S s<|esw 101 x0<|esw 102 y0<|esw 103 z0<|vw fun a s => ?_
 refine l_seq q (l_box (zs := B) s 1000 q q q q fun b2 a w hb hK s => ?_)
 obtain ⟨r3, F0, hg⟩ := bind_some hg
 refine S s<|aw q<|nw<|sw<|sw<|lw<|yw q (bF 0 · u62 q)<|yw q (lB 1000 · u9 q) fun a s => ?_
 refine lV s q func77 (c_r01_Name n _ _ s.lt _ (by omega) _ F0) fun a w hK s => ?_
 refine S s<|yw q (y_not · q)<|nw fun a s => c_cond s q (fun l0 => ?_) (fun l0 => ?_)
 ·replace hg := br_t hg l0
  refine S s<|vw<|aw q<|nw fun a s => ?_
  apply wp_ret
  refine p_thenR ?_
  obtain rfl := si hg
  exact fin1 (fn := Tryz.f113) s q (r_tmp s q) q
 replace hg := br_n hg l0
 refine S s<|kw<|pw<|sw<|vw<|yw q (bF 5 · u62 q)<|yw q (lB 1000 · u58 q)<|yw q (lS · q u58)<|yw q (y_gtrN (i := ((x_.Defaults).length)) (j := 256) · q q)<|nw fun a s => c_dec s q (fun m0 => ?_) (fun m0 => ?_)
 ·replace hg := br_t hg m0
  have Q0 := SlR.mx (s.ft 103 q)
  refine S s<|vw<|aw q<|nw fun a s => ?_
  apply wp_ret
  refine p_thenR ?_
  obtain rfl := si hg
  exact fin1 (fn := Tryz.f113) s q (r_tmp s q) q
 replace hg := br_f hg m0
 obtain ⟨H0, D0, hg⟩ := bind_some hg
 refine S s<|kw<|pw<|sw<|lw<|yw q (bF 1 · u62 q)<|yw q (y_loadBox (kk := 1000) (n := 4) (vs := [vI x_.Strict.Op, vT x_.Strict.Name, sl b0 x_.Strict.Path d0, sl c0 x_.Strict.Kids e0]) · q q u60 q q q q) fun a s => ?_
 refine lV s q func129 (c_r19_Check n _ _ s.lt _ _ _ _ _ (by omega) (s.ft 101 q) (s.ft 102 q) _ D0) fun a w hK s => ?_
 refine S s<|aw q<|nw<|sw<|vw<|aw q<|nw<|bw fun a s => ?_
 refine c_loop (σ := Nat) (fun m1 a w => ∃ (g0 : Int) (a0 : Nat), r21_defError_L0 n x_ m1 g0 a0 = some r ∧ St (cx f113 M w0) [(1, vP b2 0), (3, vI g0), (4, vI (((a0 : Nat) : Int)))] [(1000, Ob.box b2 B 62)] F a w) (fun m1 => m1) n ⟨(H0), (0), hg, (s.sb q q q)⟩ ?_
 clear s a; rintro m1 a w ⟨g0, a0, hg, s⟩
 rcases m1 with _ | m1
 ·rw [r21_defError_L0] at hg; cases hg
 rw [r21_defError_L0] at hg
 apply wQ
 apply wQ
 obtain ⟨G0, hg, t0⟩ := jn_some hg
 refine c_post (fun a w => ∃ (o0 : Bool), G0 o0 = some r ∧ St (cx f113 M w0) [(1, vP b2 0), (3, vI g0), (4, vI (((a0 : Nat) : Int))), (24, .bool (o0))] [(1000, Ob.box b2 B 62)] F a w) ?_ ?_
 ·rcases Decidable.em (a0 < ((x_.Defaults).length)) with h0 | h0
  ·have n0 := decide_eq_true h0
   replace hg := br_t hg h0
   have R0 := SlR.mx (s.ft 103 q)
   refine S s<|lw<|mw q<|yw q (bF 5 · u62 q)<|yw q (lB 1000 · u58 q)<|yw q (lS · q u58)<|yw q (fun s => yl_b (y_lssN (i := a0) (j := ((x_.Defaults).length)) s q q) n0)<|mw q<|hw q<|zw q (y_eql · q q)<|tw_ q<|nw fun a s => ?_
   exact ⟨(decide (g0 = 0)), hg, (s.sb q q q)⟩
  have n0 := decide_eq_false h0
  replace hg := br_f hg h0
  refine S s<|lw<|mw q<|yw q (bF 5 · u62 q)<|yw q (lB 1000 · u58 q)<|yw q (lS · q u58)<|yw q (fun s => yl_b (y_lssN (i := a0) (j := ((x_.Defaults).length)) s q q) n0)<|mw q<|gw q<|gw q<|fw q<|nw fun a s => ?_
  exact ⟨(false), hg, (s.sb q q q)⟩
 clear s a; rintro a w ⟨o0, hg, s⟩
 subst t0
 refine c_cond s q (fun k0 => ?_) (fun k0 => ?_)
 ·replace hg := br_t hg k0
  obtain ⟨X0, p0, hg⟩ := bind_some hg
  obtain ⟨I0, E0, hg⟩ := bind_some hg
  refine S s<|kw<|pw<|sw<|bw<|lw<|yw q (bF 5 · u62 q)<|yw q (lB 1000 · u58 q)<|mw q fun a s => ?_
  obtain ⟨V0, s0, u0, v0, O0, r0, q0⟩ := SlR.elemX (s.ft 103 q) p0
  refine qq s q (eL 4 a0 s u58 s0 (lt_of_get p0) q) fun a s => ?_
  obtain ⟨J0, L0, K0, M0, rfl, U0, B0, C0⟩ := RDesc.open r0
  refine S s<|nsw 106 B0<|nsw 107 C0<|yw q (y_ldp · q u0 v0 (by simpa using q0) u60 q q) fun a s => ?_
  refine lV s q func129 (c_r19_Check n _ _ s.lt _ _ _ _ _ (by omega) (s.ft 106 q) (s.ft 107 q) _ E0) fun a w hK s => ?_
  refine asg s q q fun a s => ?_
  apply wO
  refine p_inN ?_
  obtain ⟨P0, hg⟩ := chk_some hg
  refine S s<|pw<|lw<|mw q<|yw q (y_addN (i := a0) (j := 1) · q q (in64.2 (by omega)))<|aw q<|nw fun a s => ?_
  exact ⟨m1, Nat.lt_succ_self _, ⟨(I0), (a0 + 1), hg, (s.sb q q q)⟩⟩
 replace hg := br_n hg k0
 apply wp_exit
 refine p_then ?_
 refine p_then ?_
 refine p_in ?_
 refine S s<|pw<|vw<|mw q<|aw q<|nw fun a s => ?_
 apply wp_ret
 obtain rfl := si hg
 exact fin1 (fn := Tryz.f113) s q (r_tmp s q) q
set_option maxHeartbeats 1000000 in
theorem c_r21_defsError (n : Nat) (M : Bs) (w0 : World) (hM : ∀ b, M b → b < w0.heap.size) (l_ : (List Def)) (b0 : Option Addr) (c0 : Nat) (m0 : sR RDef M w0 b0 c0 l_) (r : Int) (hg : r21_defsError n l_ = some r) :
    Calls Tryz.prog 82 [sl b0 l_ c0].toArray w0 (Ret noB w0 fun v w => v = .int .i64 (r)) := by
 unfold r21_defsError at hg
 refine enter M noB func82 q q hM ?_
 intro a s
 refine S s<|esw 101 m0<|vw<|aw q<|nw<|sw<|vw<|aw q<|nw<|bw fun a s => ?_
 refine c_loop (σ := Nat) (fun m1 a w => ∃ (a0 : Nat), r21_defsError_L0 n l_ m1 a0 = some r ∧ St (cx f82 M w0) [(0, sl b0 l_ c0), (3, vI (((a0 : Nat) : Int)))] [] [(101, sF RDef b0 c0 l_)] a w) (fun m1 => m1) n ⟨(0), hg, (s.sb q q q)⟩ ?_
 clear s a; rintro m1 a w ⟨a0, hg, s⟩
 rcases m1 with _ | m1
 ·rw [r21_defsError_L0] at hg; cases hg
 rw [r21_defsError_L0] at hg
 refine S s<|sw<|vw<|mw q<|mw q<|yw q (lS · q u33)<|yw q (y_lssN (i := a0) (j := ((l_).length)) · q q)<|nw fun a s => c_dec s q (fun e0 => ?_) (fun e0 => ?_)
 ·replace hg := br_t hg e0
  have z0 := SlR.mx (s.ft 101 q)
  obtain ⟨x5, g0, hg⟩ := bind_some hg
  obtain ⟨r7, q0, hg⟩ := bind_some hg
  refine S s<|kw<|pw<|sw<|bw<|sw<|lw<|mw q<|mw q fun a s => ?_
  obtain ⟨D0, j0, k0, l0, y0, i0, h0⟩ := SlR.elemX (s.ft 101 q) g0
  refine qq s q (eL 6 a0 s u33 j0 (lt_of_get g0) q) fun a s => ?_
  obtain ⟨r0, u0, s0, v0, t0, x0, rfl, B0, C0, n0, o0, p0⟩ := RDef.open i0
  refine S s<|nsw 105 n0<|nsw 106 o0<|nsw 107 p0<|yw q (y_ldp · q k0 l0 (by simpa using h0) u62 q q) fun a s => ?_
  refine lV s q func113 (c_r21_defError n _ _ s.lt _ _ _ _ _ _ _ (by omega) (by omega) (s.ft 105 q) (s.ft 106 q) (s.ft 107 q) _ q0) fun a w hK s => ?_
  refine S s<|aw q<|nw<|vw<|mw q<|yw q (y_neq · q q)<|nw fun a s => c_dec s q (fun d0 => ?_) (fun d0 => ?_)
  ·replace hg := br_t hg d0
   refine S s<|vw<|mw q<|aw q<|nw fun a s => ?_
   apply wp_ret
   refine p_inR ?_
   refine p_thenR ?_
   refine p_thenR ?_
   refine p_inR ?_
   refine p_thenR ?_
   obtain rfl := si hg
   exact fin1 (fn := Tryz.f82) s q (r_tmp s q) q
  replace hg := br_f hg d0
  apply wp_skip
  refine p_inN ?_
  refine S s<|pw<|lw<|mw q<|yw q (y_addN (i := a0) (j := 1) · q q (in64.2 (by omega)))<|aw q<|nw fun a s => ?_
  exact ⟨m1, Nat.lt_succ_self _, ⟨(a0 + 1), hg, (s.sb q q q)⟩⟩
 replace hg := br_f hg e0
 apply wp_exit
 refine p_then ?_
 refine p_then ?_
 refine p_in ?_
 refine S s<|pw<|vw<|aw q<|nw fun a s => ?_
 apply wp_ret
 obtain rfl := si hg
 exact fin1 (fn := Tryz.f82) s q (r_tmp s q) q
end Go.Proofs.YtbhjplflnkidgaaGreat

