/- Chapter 22: a walk -/
import Derived.Test.YtbhjplflnkidgaaGreatAU
import Derived.Test.YtbhjplflnkidgaaGreatWSLists
namespace Go.Proofs.YtbhjplflnkidgaaGreat
open Go.Gl Go.RowKit Tryz
set_option linter.unusedVariables false
set_option linter.unusedSimpArgs false
set_option maxRecDepth 4000
set_option maxHeartbeats 1000000
theorem c_r21_SameModule (n : Nat) (M : Bs) (w0 : World) (hM : bM M w0) (a_ : Module) (o0 : OA) (I0 : Nat) (p0 : OA) (J0 : Nat) (q0 : OA) (K0 : Nat) (r0 : OA) (L0 : Nat) (s0 : OA) (M0 : Nat) (t0 : OA) (O0 : Nat) (u0 : OA) (P0 : Nat) (v0 : OA) (Q0 : Nat) (n0 : OA) (H0 : Nat) (D1 : (a_.Name).length ≤ 9223372036854775807) (e1 : sR Rep.str M w0 o0 I0 a_.Imports) (g1 : sR RTypeDecl M w0 p0 J0 a_.Types) (h1 : sR RDef M w0 q0 K0 a_.Templates) (i1 : sR REntryDecl M w0 r0 L0 a_.Entries) (j1 : sR RLexDecl M w0 s0 M0 a_.LexRules) (k1 : sR RDef M w0 t0 O0 a_.Rules) (l1 : sR RDef M w0 u0 P0 a_.Roots) (m1 : sR (Rep.list Rep.str) M w0 v0 Q0 a_.Checks) (d1 : sR Rep.str M w0 n0 H0 a_.Drops) (b_ : Module) (y0 : OA) (S0 : Nat) (z0 : OA) (T0 : Nat) (B0 : OA) (U0 : Nat) (C0 : OA) (V0 : Nat) (D0 : OA) (X0 : Nat) (E0 : OA) (Y0 : Nat) (F0 : OA) (Z0 : Nat) (G0 : OA) (a1 : Nat) (x0 : OA) (R0 : Nat) (E1 : (b_.Name).length ≤ 9223372036854775807) (o1 : sR Rep.str M w0 y0 S0 b_.Imports) (p1 : sR RTypeDecl M w0 z0 T0 b_.Types) (q1 : sR RDef M w0 B0 U0 b_.Templates) (r1 : sR REntryDecl M w0 C0 V0 b_.Entries) (s1 : sR RLexDecl M w0 D0 X0 b_.LexRules) (t1 : sR RDef M w0 E0 Y0 b_.Rules) (u1 : sR RDef M w0 F0 Z0 b_.Roots) (v1 : sR (Rep.list Rep.str) M w0 G0 a1 b_.Checks) (n1 : sR Rep.str M w0 x0 R0 b_.Drops) (r : Bool) (hg : r21_SameModule n a_ b_ = some r) :
    CA Tryz.prog 19 [.agg #[vT a_.Name, sl o0 a_.Imports I0, sl p0 a_.Types J0, sl q0 a_.Templates K0, sl r0 a_.Entries L0, sl s0 a_.LexRules M0, sl t0 a_.Rules O0, sl u0 a_.Roots P0, sl v0 a_.Checks Q0, sl n0 a_.Drops H0], .agg #[vT b_.Name, sl y0 b_.Imports S0, sl z0 b_.Types T0, sl B0 b_.Templates U0, sl C0 b_.Entries V0, sl D0 b_.LexRules X0, sl E0 b_.Rules Y0, sl F0 b_.Roots Z0, sl G0 b_.Checks a1, sl x0 b_.Drops R0]] w0 (fun v w => v = .bool (r)) := by
 unfold r21_SameModule at hg
 refine enter M noB func19 q q hM ?_
 intro a s
 refine S s<|esw 101 e1<|esw 102 g1<|esw 103 h1<|esw 104 i1<|esw 105 j1<|esw 106 k1<|esw 107 l1<|esw 108 m1<|esw 109 d1<|esw 110 o1<|esw 111 p1<|esw 112 q1<|esw 113 r1<|esw 114 s1<|esw 115 t1<|esw 116 u1<|esw 117 v1<|esw 118 n1<|vw fun a s => ?_
 refine l_seq q (l_box (zs := [vT a_.Name, sl o0 a_.Imports I0, sl p0 a_.Types J0, sl q0 a_.Templates K0, sl r0 a_.Entries L0, sl s0 a_.LexRules M0, sl t0 a_.Rules O0, sl u0 a_.Roots P0, sl v0 a_.Checks Q0, sl n0 a_.Drops H0]) s 1000 q q q q fun b3 a w hb hK s => ?_)
 refine l_seq q (l_box (zs := [vT b_.Name, sl y0 b_.Imports S0, sl z0 b_.Types T0, sl B0 b_.Templates U0, sl C0 b_.Entries V0, sl D0 b_.LexRules X0, sl E0 b_.Rules Y0, sl F0 b_.Roots Z0, sl G0 b_.Checks a1, sl x0 b_.Drops R0]) s 1001 q q q q fun b4 a w hb hK s => ?_)
 refine S s<|aw q<|nw<|sw fun a s => ?_
 rcases Decidable.em ((a_.Name : List UInt8) = b_.Name) with l0 | l0
 ·have c0 := decide_eq_true l0
  replace hg := br_t hg l0
  obtain ⟨r6, e0, hg⟩ := zB hg
  rcases Bool.eq_false_or_eq_true (r6) with a0 | a0
  ·replace hg := br_t hg a0
   obtain ⟨x1, h0, hg⟩ := zB hg
   rcases Bool.eq_false_or_eq_true (x1) with b0 | b0
   ·replace hg := br_t hg b0
    obtain ⟨y1, j0, hg⟩ := zB hg
    rcases Bool.eq_false_or_eq_true (y1) with d0 | d0
    ·replace hg := br_t hg d0
     obtain ⟨z1, m0, hg⟩ := zB hg
     rcases Bool.eq_false_or_eq_true (z1) with g0 | g0
     ·replace hg := br_t hg g0
      obtain ⟨B1, b1, hg⟩ := zB hg
      rcases Bool.eq_false_or_eq_true (B1) with i0 | i0
      ·replace hg := br_t hg i0
       obtain ⟨C1, c1, hg⟩ := zB hg
       rcases Bool.eq_false_or_eq_true (C1) with k0 | k0
       ·replace hg := br_t hg k0
        obtain ⟨F1, w1, hg⟩ := zB hg
        refine S s<|lw<|yw q (bF 0 · u38 q)<|yw q (lB 1000 · u9 q)<|yw q (bF 0 · u38 q)<|yw q (lB 1001 · u9 q)<|yw q (fun s => yl_b (y_seq s q q) c0)<|mw q<|zw q (bF 1 · u38 q)<|zw q (lB 1000 · u25 q)<|zw q (bF 1 · u38 q)<|zw q (lB 1001 · u25 q) fun a s => ?_
        refine gC s q func14 (c_r01_Same n _ _ s.lt _ _ _ (s.ft 101 q) _ _ _ (s.ft 110 q) _ e0) fun G1 a w hK hp s => ?_
        obtain rfl := hp.trans (congrArg Value.bool a0)
        refine S s<|tw_ q<|mw q<|zw q (bF 2 · u38 q)<|zw q (lB 1000 · u32 q)<|zw q (bF 2 · u38 q)<|zw q (lB 1001 · u32 q) fun a s => ?_
        refine gC s q func48 (c_r21_sameTypes n _ _ s.lt _ _ _ (s.ft 102 q) _ _ _ (s.ft 111 q) _ h0) fun H1 a w hK hp s => ?_
        obtain rfl := hp.trans (congrArg Value.bool b0)
        refine S s<|tw_ q<|mw q<|zw q (bF 3 · u38 q)<|zw q (lB 1000 · u33 q)<|zw q (bF 3 · u38 q)<|zw q (lB 1001 · u33 q) fun a s => ?_
        refine gC s q func49 (c_r21_sameDefs n _ _ s.lt _ _ _ (s.ft 103 q) _ _ _ (s.ft 112 q) _ j0) fun I1 a w hK hp s => ?_
        obtain rfl := hp.trans (congrArg Value.bool d0)
        refine S s<|tw_ q<|mw q<|zw q (y_loadAll (kk := 1000) · q q u38 q q)<|zw q (y_loadAll (kk := 1001) · q q u38 q q) fun a s => ?_
        refine gC s q func50 (c_r21_sameLists n _ _ s.lt _ _ _ _ _ _ _ _ _ _ _ _ _ _ _ _ _ _ _ (by omega) (s.ft 101 q) (s.ft 102 q) (s.ft 103 q) (s.ft 104 q) (s.ft 105 q) (s.ft 106 q) (s.ft 107 q) (s.ft 108 q) (s.ft 109 q) _ _ _ _ _ _ _ _ _ _ _ _ _ _ _ _ _ _ _ (by omega) (s.ft 110 q) (s.ft 111 q) (s.ft 112 q) (s.ft 113 q) (s.ft 114 q) (s.ft 115 q) (s.ft 116 q) (s.ft 117 q) (s.ft 118 q) _ m0) fun J1 a w hK hp s => ?_
        obtain rfl := hp.trans (congrArg Value.bool g0)
        refine S s<|tw_ q<|mw q<|zw q (bF 6 · u38 q)<|zw q (lB 1000 · u33 q)<|zw q (bF 6 · u38 q)<|zw q (lB 1001 · u33 q) fun a s => ?_
        refine gC s q func49 (c_r21_sameDefs n _ _ s.lt _ _ _ (s.ft 106 q) _ _ _ (s.ft 115 q) _ b1) fun K1 a w hK hp s => ?_
        obtain rfl := hp.trans (congrArg Value.bool i0)
        refine S s<|tw_ q<|mw q<|zw q (bF 7 · u38 q)<|zw q (lB 1000 · u33 q)<|zw q (bF 7 · u38 q)<|zw q (lB 1001 · u33 q) fun a s => ?_
        refine gC s q func49 (c_r21_sameDefs n _ _ s.lt _ _ _ (s.ft 107 q) _ _ _ (s.ft 116 q) _ c1) fun L1 a w hK hp s => ?_
        obtain rfl := hp.trans (congrArg Value.bool k0)
        refine S s<|tw_ q<|mw q<|zw q (bF 9 · u38 q)<|zw q (lB 1000 · u25 q)<|zw q (bF 9 · u38 q)<|zw q (lB 1001 · u25 q) fun a s => ?_
        refine gV s q func14 (c_r01_Same n _ _ s.lt _ _ _ (s.ft 109 q) _ _ _ (s.ft 118 q) _ w1) fun a w hK s => ?_
        refine S s<|tw_ q<|aw q<|nw fun a s => ?_
        apply wp_ret
        obtain rfl := si hg
        exact fT f19 s q q q
       replace hg := br_n hg k0
       refine S s<|lw<|yw q (bF 0 · u38 q)<|yw q (lB 1000 · u9 q)<|yw q (bF 0 · u38 q)<|yw q (lB 1001 · u9 q)<|yw q (fun s => yl_b (y_seq s q q) c0)<|mw q<|zw q (bF 1 · u38 q)<|zw q (lB 1000 · u25 q)<|zw q (bF 1 · u38 q)<|zw q (lB 1001 · u25 q) fun a s => ?_
       refine gC s q func14 (c_r01_Same n _ _ s.lt _ _ _ (s.ft 101 q) _ _ _ (s.ft 110 q) _ e0) fun M1 a w hK hp s => ?_
       obtain rfl := hp.trans (congrArg Value.bool a0)
       refine S s<|tw_ q<|mw q<|zw q (bF 2 · u38 q)<|zw q (lB 1000 · u32 q)<|zw q (bF 2 · u38 q)<|zw q (lB 1001 · u32 q) fun a s => ?_
       refine gC s q func48 (c_r21_sameTypes n _ _ s.lt _ _ _ (s.ft 102 q) _ _ _ (s.ft 111 q) _ h0) fun O1 a w hK hp s => ?_
       obtain rfl := hp.trans (congrArg Value.bool b0)
       refine S s<|tw_ q<|mw q<|zw q (bF 3 · u38 q)<|zw q (lB 1000 · u33 q)<|zw q (bF 3 · u38 q)<|zw q (lB 1001 · u33 q) fun a s => ?_
       refine gC s q func49 (c_r21_sameDefs n _ _ s.lt _ _ _ (s.ft 103 q) _ _ _ (s.ft 112 q) _ j0) fun P1 a w hK hp s => ?_
       obtain rfl := hp.trans (congrArg Value.bool d0)
       refine S s<|tw_ q<|mw q<|zw q (y_loadAll (kk := 1000) · q q u38 q q)<|zw q (y_loadAll (kk := 1001) · q q u38 q q) fun a s => ?_
       refine gC s q func50 (c_r21_sameLists n _ _ s.lt _ _ _ _ _ _ _ _ _ _ _ _ _ _ _ _ _ _ _ (by omega) (s.ft 101 q) (s.ft 102 q) (s.ft 103 q) (s.ft 104 q) (s.ft 105 q) (s.ft 106 q) (s.ft 107 q) (s.ft 108 q) (s.ft 109 q) _ _ _ _ _ _ _ _ _ _ _ _ _ _ _ _ _ _ _ (by omega) (s.ft 110 q) (s.ft 111 q) (s.ft 112 q) (s.ft 113 q) (s.ft 114 q) (s.ft 115 q) (s.ft 116 q) (s.ft 117 q) (s.ft 118 q) _ m0) fun Q1 a w hK hp s => ?_
       obtain rfl := hp.trans (congrArg Value.bool g0)
       refine S s<|tw_ q<|mw q<|zw q (bF 6 · u38 q)<|zw q (lB 1000 · u33 q)<|zw q (bF 6 · u38 q)<|zw q (lB 1001 · u33 q) fun a s => ?_
       refine gC s q func49 (c_r21_sameDefs n _ _ s.lt _ _ _ (s.ft 106 q) _ _ _ (s.ft 115 q) _ b1) fun R1 a w hK hp s => ?_
       obtain rfl := hp.trans (congrArg Value.bool i0)
       refine S s<|tw_ q<|mw q<|zw q (bF 7 · u38 q)<|zw q (lB 1000 · u33 q)<|zw q (bF 7 · u38 q)<|zw q (lB 1001 · u33 q) fun a s => ?_
       refine gC s q func49 (c_r21_sameDefs n _ _ s.lt _ _ _ (s.ft 107 q) _ _ _ (s.ft 116 q) _ c1) fun S1 a w hK hp s => ?_
       obtain rfl := hp.trans (congrArg Value.bool k0)
       refine S s<|tw_ q<|mw q<|gw q<|gw q<|gw q<|gw q<|gw q<|fw q<|aw q<|nw fun a s => ?_
       apply wp_ret
       obtain rfl := si hg
       exact fT f19 s q q q
      replace hg := br_n hg i0
      refine S s<|lw<|yw q (bF 0 · u38 q)<|yw q (lB 1000 · u9 q)<|yw q (bF 0 · u38 q)<|yw q (lB 1001 · u9 q)<|yw q (fun s => yl_b (y_seq s q q) c0)<|mw q<|zw q (bF 1 · u38 q)<|zw q (lB 1000 · u25 q)<|zw q (bF 1 · u38 q)<|zw q (lB 1001 · u25 q) fun a s => ?_
      refine gC s q func14 (c_r01_Same n _ _ s.lt _ _ _ (s.ft 101 q) _ _ _ (s.ft 110 q) _ e0) fun T1 a w hK hp s => ?_
      obtain rfl := hp.trans (congrArg Value.bool a0)
      refine S s<|tw_ q<|mw q<|zw q (bF 2 · u38 q)<|zw q (lB 1000 · u32 q)<|zw q (bF 2 · u38 q)<|zw q (lB 1001 · u32 q) fun a s => ?_
      refine gC s q func48 (c_r21_sameTypes n _ _ s.lt _ _ _ (s.ft 102 q) _ _ _ (s.ft 111 q) _ h0) fun U1 a w hK hp s => ?_
      obtain rfl := hp.trans (congrArg Value.bool b0)
      refine S s<|tw_ q<|mw q<|zw q (bF 3 · u38 q)<|zw q (lB 1000 · u33 q)<|zw q (bF 3 · u38 q)<|zw q (lB 1001 · u33 q) fun a s => ?_
      refine gC s q func49 (c_r21_sameDefs n _ _ s.lt _ _ _ (s.ft 103 q) _ _ _ (s.ft 112 q) _ j0) fun V1 a w hK hp s => ?_
      obtain rfl := hp.trans (congrArg Value.bool d0)
      refine S s<|tw_ q<|mw q<|zw q (y_loadAll (kk := 1000) · q q u38 q q)<|zw q (y_loadAll (kk := 1001) · q q u38 q q) fun a s => ?_
      refine gC s q func50 (c_r21_sameLists n _ _ s.lt _ _ _ _ _ _ _ _ _ _ _ _ _ _ _ _ _ _ _ (by omega) (s.ft 101 q) (s.ft 102 q) (s.ft 103 q) (s.ft 104 q) (s.ft 105 q) (s.ft 106 q) (s.ft 107 q) (s.ft 108 q) (s.ft 109 q) _ _ _ _ _ _ _ _ _ _ _ _ _ _ _ _ _ _ _ (by omega) (s.ft 110 q) (s.ft 111 q) (s.ft 112 q) (s.ft 113 q) (s.ft 114 q) (s.ft 115 q) (s.ft 116 q) (s.ft 117 q) (s.ft 118 q) _ m0) fun X1 a w hK hp s => ?_
      obtain rfl := hp.trans (congrArg Value.bool g0)
      refine S s<|tw_ q<|mw q<|zw q (bF 6 · u38 q)<|zw q (lB 1000 · u33 q)<|zw q (bF 6 · u38 q)<|zw q (lB 1001 · u33 q) fun a s => ?_
      refine gC s q func49 (c_r21_sameDefs n _ _ s.lt _ _ _ (s.ft 106 q) _ _ _ (s.ft 115 q) _ b1) fun Y1 a w hK hp s => ?_
      obtain rfl := hp.trans (congrArg Value.bool i0)
      refine S s<|tw_ q<|mw q<|gw q<|gw q<|gw q<|gw q<|gw q<|fw q<|mw q<|gw q<|gw q<|gw q<|gw q<|gw q<|fw q<|aw q<|nw fun a s => ?_
      apply wp_ret
      obtain rfl := si hg
      exact fT f19 s q q q
     replace hg := br_n hg g0
     refine S s<|lw<|yw q (bF 0 · u38 q)<|yw q (lB 1000 · u9 q)<|yw q (bF 0 · u38 q)<|yw q (lB 1001 · u9 q)<|yw q (fun s => yl_b (y_seq s q q) c0)<|mw q<|zw q (bF 1 · u38 q)<|zw q (lB 1000 · u25 q)<|zw q (bF 1 · u38 q)<|zw q (lB 1001 · u25 q) fun a s => ?_
     refine gC s q func14 (c_r01_Same n _ _ s.lt _ _ _ (s.ft 101 q) _ _ _ (s.ft 110 q) _ e0) fun Z1 a w hK hp s => ?_
     obtain rfl := hp.trans (congrArg Value.bool a0)
     refine S s<|tw_ q<|mw q<|zw q (bF 2 · u38 q)<|zw q (lB 1000 · u32 q)<|zw q (bF 2 · u38 q)<|zw q (lB 1001 · u32 q) fun a s => ?_
     refine gC s q func48 (c_r21_sameTypes n _ _ s.lt _ _ _ (s.ft 102 q) _ _ _ (s.ft 111 q) _ h0) fun a2 a w hK hp s => ?_
     obtain rfl := hp.trans (congrArg Value.bool b0)
     refine S s<|tw_ q<|mw q<|zw q (bF 3 · u38 q)<|zw q (lB 1000 · u33 q)<|zw q (bF 3 · u38 q)<|zw q (lB 1001 · u33 q) fun a s => ?_
     refine gC s q func49 (c_r21_sameDefs n _ _ s.lt _ _ _ (s.ft 103 q) _ _ _ (s.ft 112 q) _ j0) fun b2 a w hK hp s => ?_
     obtain rfl := hp.trans (congrArg Value.bool d0)
     refine S s<|tw_ q<|mw q<|zw q (y_loadAll (kk := 1000) · q q u38 q q)<|zw q (y_loadAll (kk := 1001) · q q u38 q q) fun a s => ?_
     refine gC s q func50 (c_r21_sameLists n _ _ s.lt _ _ _ _ _ _ _ _ _ _ _ _ _ _ _ _ _ _ _ (by omega) (s.ft 101 q) (s.ft 102 q) (s.ft 103 q) (s.ft 104 q) (s.ft 105 q) (s.ft 106 q) (s.ft 107 q) (s.ft 108 q) (s.ft 109 q) _ _ _ _ _ _ _ _ _ _ _ _ _ _ _ _ _ _ _ (by omega) (s.ft 110 q) (s.ft 111 q) (s.ft 112 q) (s.ft 113 q) (s.ft 114 q) (s.ft 115 q) (s.ft 116 q) (s.ft 117 q) (s.ft 118 q) _ m0) fun c2 a w hK hp s => ?_
     obtain rfl := hp.trans (congrArg Value.bool g0)
     refine S s<|tw_ q<|mw q<|gw q<|gw q<|gw q<|gw q<|gw q<|fw q<|mw q<|gw q<|gw q<|gw q<|gw q<|gw q<|fw q<|mw q<|gw q<|gw q<|gw q<|gw q<|gw q<|fw q<|aw q<|nw fun a s => ?_
     apply wp_ret
     obtain rfl := si hg
     exact fT f19 s q q q
    replace hg := br_n hg d0
    refine S s<|lw<|yw q (bF 0 · u38 q)<|yw q (lB 1000 · u9 q)<|yw q (bF 0 · u38 q)<|yw q (lB 1001 · u9 q)<|yw q (fun s => yl_b (y_seq s q q) c0)<|mw q<|zw q (bF 1 · u38 q)<|zw q (lB 1000 · u25 q)<|zw q (bF 1 · u38 q)<|zw q (lB 1001 · u25 q) fun a s => ?_
    refine gC s q func14 (c_r01_Same n _ _ s.lt _ _ _ (s.ft 101 q) _ _ _ (s.ft 110 q) _ e0) fun d2 a w hK hp s => ?_
    obtain rfl := hp.trans (congrArg Value.bool a0)
    refine S s<|tw_ q<|mw q<|zw q (bF 2 · u38 q)<|zw q (lB 1000 · u32 q)<|zw q (bF 2 · u38 q)<|zw q (lB 1001 · u32 q) fun a s => ?_
    refine gC s q func48 (c_r21_sameTypes n _ _ s.lt _ _ _ (s.ft 102 q) _ _ _ (s.ft 111 q) _ h0) fun e2 a w hK hp s => ?_
    obtain rfl := hp.trans (congrArg Value.bool b0)
    refine S s<|tw_ q<|mw q<|zw q (bF 3 · u38 q)<|zw q (lB 1000 · u33 q)<|zw q (bF 3 · u38 q)<|zw q (lB 1001 · u33 q) fun a s => ?_
    refine gC s q func49 (c_r21_sameDefs n _ _ s.lt _ _ _ (s.ft 103 q) _ _ _ (s.ft 112 q) _ j0) fun g2 a w hK hp s => ?_
    obtain rfl := hp.trans (congrArg Value.bool d0)
    refine S s<|tw_ q<|mw q<|gw q<|gw q<|gw q<|fw q<|mw q<|gw q<|gw q<|gw q<|gw q<|gw q<|fw q<|mw q<|gw q<|gw q<|gw q<|gw q<|gw q<|fw q<|mw q<|gw q<|gw q<|gw q<|gw q<|gw q<|fw q<|aw q<|nw fun a s => ?_
    apply wp_ret
    obtain rfl := si hg
    exact fT f19 s q q q
   replace hg := br_n hg b0
   refine S s<|lw<|yw q (bF 0 · u38 q)<|yw q (lB 1000 · u9 q)<|yw q (bF 0 · u38 q)<|yw q (lB 1001 · u9 q)<|yw q (fun s => yl_b (y_seq s q q) c0)<|mw q<|zw q (bF 1 · u38 q)<|zw q (lB 1000 · u25 q)<|zw q (bF 1 · u38 q)<|zw q (lB 1001 · u25 q) fun a s => ?_
   refine gC s q func14 (c_r01_Same n _ _ s.lt _ _ _ (s.ft 101 q) _ _ _ (s.ft 110 q) _ e0) fun h2 a w hK hp s => ?_
   obtain rfl := hp.trans (congrArg Value.bool a0)
   refine S s<|tw_ q<|mw q<|zw q (bF 2 · u38 q)<|zw q (lB 1000 · u32 q)<|zw q (bF 2 · u38 q)<|zw q (lB 1001 · u32 q) fun a s => ?_
   refine gC s q func48 (c_r21_sameTypes n _ _ s.lt _ _ _ (s.ft 102 q) _ _ _ (s.ft 111 q) _ h0) fun i2 a w hK hp s => ?_
   obtain rfl := hp.trans (congrArg Value.bool b0)
   refine S s<|tw_ q<|mw q<|gw q<|gw q<|gw q<|gw q<|gw q<|fw q<|mw q<|gw q<|gw q<|gw q<|fw q<|mw q<|gw q<|gw q<|gw q<|gw q<|gw q<|fw q<|mw q<|gw q<|gw q<|gw q<|gw q<|gw q<|fw q<|mw q<|gw q<|gw q<|gw q<|gw q<|gw q<|fw q<|aw q<|nw fun a s => ?_
   apply wp_ret
   obtain rfl := si hg
   exact fT f19 s q q q
  replace hg := br_n hg a0
  refine S s<|lw<|yw q (bF 0 · u38 q)<|yw q (lB 1000 · u9 q)<|yw q (bF 0 · u38 q)<|yw q (lB 1001 · u9 q)<|yw q (fun s => yl_b (y_seq s q q) c0)<|mw q<|zw q (bF 1 · u38 q)<|zw q (lB 1000 · u25 q)<|zw q (bF 1 · u38 q)<|zw q (lB 1001 · u25 q) fun a s => ?_
  refine gC s q func14 (c_r01_Same n _ _ s.lt _ _ _ (s.ft 101 q) _ _ _ (s.ft 110 q) _ e0) fun j2 a w hK hp s => ?_
  obtain rfl := hp.trans (congrArg Value.bool a0)
  refine S s<|tw_ q<|mw q<|gw q<|gw q<|gw q<|gw q<|gw q<|fw q<|mw q<|gw q<|gw q<|gw q<|gw q<|gw q<|fw q<|mw q<|gw q<|gw q<|gw q<|fw q<|mw q<|gw q<|gw q<|gw q<|gw q<|gw q<|fw q<|mw q<|gw q<|gw q<|gw q<|gw q<|gw q<|fw q<|mw q<|gw q<|gw q<|gw q<|gw q<|gw q<|fw q<|aw q<|nw fun a s => ?_
  apply wp_ret
  obtain rfl := si hg
  exact fT f19 s q q q
 have c0 := decide_eq_false l0
 replace hg := br_f hg l0
 refine S s<|lw<|yw q (bF 0 · u38 q)<|yw q (lB 1000 · u9 q)<|yw q (bF 0 · u38 q)<|yw q (lB 1001 · u9 q)<|yw q (fun s => yl_b (y_seq s q q) c0)<|mw q<|gw q<|gw q<|gw q<|gw q<|gw q<|fw q<|mw q<|gw q<|gw q<|gw q<|gw q<|gw q<|fw q<|mw q<|gw q<|gw q<|gw q<|gw q<|gw q<|fw q<|mw q<|gw q<|gw q<|gw q<|fw q<|mw q<|gw q<|gw q<|gw q<|gw q<|gw q<|fw q<|mw q<|gw q<|gw q<|gw q<|gw q<|gw q<|fw q<|mw q<|gw q<|gw q<|gw q<|gw q<|gw q<|fw q<|aw q<|nw fun a s => ?_
 apply wp_ret
 obtain rfl := si hg
 exact fT f19 s q q q
end Go.Proofs.YtbhjplflnkidgaaGreat
