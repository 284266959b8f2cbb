/- Chapter 22: a walk -/
import Derived.Test.YtbhjplflnkidgaaGreatAU
import Derived.Test.YtbhjplflnkidgaaGreatW4
namespace Go.Proofs.YtbhjplflnkidgaaGreat
open Go.Gl Go.RowKit Tryz
set_option linter.unusedVariables false
set_option linter.unusedSimpArgs false
set_option maxRecDepth 4000

set_option maxHeartbeats 1000000 in
theorem c_r21_sameLists (n : Nat) (M : Bs) (w0 : World) (hM : ∀ b, M b → b < w0.heap.size) (t_ : Module) (B0 : Option Addr) (U0 : Nat) (C0 : Option Addr) (V0 : Nat) (D0 : Option Addr) (X0 : Nat) (E0 : Option Addr) (Y0 : Nat) (F0 : Option Addr) (Z0 : Nat) (G0 : Option Addr) (a1 : Nat) (H0 : Option Addr) (b1 : Nat) (I0 : Option Addr) (c1 : Nat) (z0 : Option Addr) (T0 : Nat) (qk : (t_.Name).length ≤ 9223372036854775807) (Y9 : sR Rep.str M w0 B0 U0 t_.Imports) (Z9 : sR RTypeDecl M w0 C0 V0 t_.Types) (aa : sR RDef M w0 D0 X0 t_.Templates) (ab : sR REntryDecl M w0 E0 Y0 t_.Entries) (ad : sR RLexDecl M w0 F0 Z0 t_.LexRules) (ae : sR RDef M w0 G0 a1 t_.Rules) (af : sR RDef M w0 H0 b1 t_.Roots) (ag : sR (Rep.list Rep.str) M w0 I0 c1 t_.Checks) (X9 : sR Rep.str M w0 z0 T0 t_.Drops) (t_' : Module) (K0 : Option Addr) (e1 : Nat) (L0 : Option Addr) (g1 : Nat) (M0 : Option Addr) (h1 : Nat) (O0 : Option Addr) (i1 : Nat) (P0 : Option Addr) (j1 : Nat) (Q0 : Option Addr) (k1 : Nat) (R0 : Option Addr) (l1 : Nat) (S0 : Option Addr) (n1 : Nat) (J0 : Option Addr) (d1 : Nat) (ql : (t_'.Name).length ≤ 9223372036854775807) (ai : sR Rep.str M w0 K0 e1 t_'.Imports) (aj : sR RTypeDecl M w0 L0 g1 t_'.Types) (ak : sR RDef M w0 M0 h1 t_'.Templates) (am : sR REntryDecl M w0 O0 i1 t_'.Entries) (an : sR RLexDecl M w0 P0 j1 t_'.LexRules) (ao : sR RDef M w0 Q0 k1 t_'.Rules) (ap : sR RDef M w0 R0 l1 t_'.Roots) (aq : sR (Rep.list Rep.str) M w0 S0 n1 t_'.Checks) (ah : sR Rep.str M w0 J0 d1 t_'.Drops) (r : Bool) (hg : r21_sameLists n t_ t_' = some r) :
    Calls Tryz.prog 50 [.agg #[vT t_.Name, sl B0 t_.Imports U0, sl C0 t_.Types V0, sl D0 t_.Templates X0, sl E0 t_.Entries Y0, sl F0 t_.LexRules Z0, sl G0 t_.Rules a1, sl H0 t_.Roots b1, sl I0 t_.Checks c1, sl z0 t_.Drops T0], .agg #[vT t_'.Name, sl K0 t_'.Imports e1, sl L0 t_'.Types g1, sl M0 t_'.Templates h1, sl O0 t_'.Entries i1, sl P0 t_'.LexRules j1, sl Q0 t_'.Rules k1, sl R0 t_'.Roots l1, sl S0 t_'.Checks n1, sl J0 t_'.Drops d1]].toArray w0 (Ret noB w0 fun v w => v = .bool (r)) := by
 unfold r21_sameLists at hg
 refine enter M noB func50 q q hM ?_
 intro a s
 let F : Al Fact := [(101, sF Rep.str B0 U0 t_.Imports), (102, sF RTypeDecl C0 V0 t_.Types), (103, sF RDef D0 X0 t_.Templates), (104, sF REntryDecl E0 Y0 t_.Entries), (105, sF RLexDecl F0 Z0 t_.LexRules), (106, sF RDef G0 a1 t_.Rules), (107, sF RDef H0 b1 t_.Roots), (108, sF (Rep.list Rep.str) I0 c1 t_.Checks), (109, sF Rep.str z0 T0 t_.Drops), (110, sF Rep.str K0 e1 (t_'.Imports)), (111, sF RTypeDecl L0 g1 (t_'.Types)), (112, sF RDef M0 h1 (t_'.Templates)), (113, sF REntryDecl O0 i1 (t_'.Entries)), (114, sF RLexDecl P0 j1 (t_'.LexRules)), (115, sF RDef Q0 k1 (t_'.Rules)), (116, sF RDef R0 l1 (t_'.Roots)), (117, sF (Rep.list Rep.str) S0 n1 (t_'.Checks)), (118, sF Rep.str J0 d1 (t_'.Drops))]
 let B : List Value := [vT t_.Name, sl B0 t_.Imports U0, sl C0 t_.Types V0, sl D0 t_.Templates X0, sl E0 t_.Entries Y0, sl F0 t_.LexRules Z0, sl G0 t_.Rules a1, sl H0 t_.Roots b1, sl I0 t_.Checks c1, sl z0 t_.Drops T0]
 let C : List Value := [vT (t_'.Name), sl K0 (t_'.Imports) e1, sl L0 (t_'.Types) g1, sl M0 (t_'.Templates) h1, sl O0 (t_'.Entries) i1, sl P0 (t_'.LexRules) j1, sl Q0 (t_'.Rules) k1, sl R0 (t_'.Roots) l1, sl S0 (t_'.Checks) n1, sl J0 (t_'.Drops) d1]
 refine S s<|esw 101 Y9<|esw 102 Z9<|esw 103 aa<|esw 104 ab<|esw 105 ad<|esw 106 ae<|esw 107 af<|esw 108 ag<|esw 109 X9<|esw 110 ai<|esw 111 aj<|esw 112 ak<|esw 113 am<|esw 114 an<|esw 115 ao<|esw 116 ap<|esw 117 aq<|esw 118 ah<|vw fun a s => ?_
 refine l_seq q (l_box (zs := B) s 1000 q q q q fun b3 a w hb hK s => ?_)
 refine l_seq q (l_box (zs := C) s 1001 q q q q fun b4 a w hb hK s => ?_)
 refine S s<|aw q<|nw<|sw<|sw fun a s => ?_
 obtain ⟨k5, hg, P7⟩ := jn_some hg
 refine c_post (fun a w => ∃ (I1 : Bool), k5 I1 = some r ∧ St (cx f50 M w0) [(2, vP b3 0), (3, vP b4 0), (32, .bool (I1))] [(1000, Ob.box b3 B 38), (1001, Ob.box b4 C 38)] F a w) ?_ ?_
 ·rcases Decidable.em (((t_.Entries).length) ≠ ((t_'.Entries).length)) with x0 | x0
  ·have s1 := decide_eq_true x0
   replace hg := br_t hg x0
   refine S s<|lw<|yw q (bF 4 · u38 q)<|yw q (lB 1000 · u34 q)<|yw q (lS · q u34)<|yw q (bF 4 · u38 q)<|yw q (lB 1001 · u34 q)<|yw q (lS · q u34)<|yw q (fun s => yl_b (y_neqN (i := ((t_.Entries).length)) (j := ((t_'.Entries).length)) s q q) s1)<|mw q<|gw q<|gw q<|gw q<|gw q<|gw q<|gw q<|gw q<|tw_ q<|mw q<|gw q<|gw q<|gw q<|gw q<|gw q<|gw q<|gw q<|tw_ q<|nw fun a s => ?_
   exact ⟨(true), hg, (s.sb q q q)⟩
  have s1 := decide_eq_false x0
  replace hg := br_f hg x0
  rcases Decidable.em (((t_.LexRules).length) ≠ ((t_'.LexRules).length)) with y0 | y0
  ·have F1 := decide_eq_true y0
   replace hg := br_t hg y0
   refine S s<|lw<|yw q (bF 4 · u38 q)<|yw q (lB 1000 · u34 q)<|yw q (lS · q u34)<|yw q (bF 4 · u38 q)<|yw q (lB 1001 · u34 q)<|yw q (lS · q u34)<|yw q (fun s => yl_b (y_neqN (i := ((t_.Entries).length)) (j := ((t_'.Entries).length)) s q q) s1)<|mw q<|zw q (bF 5 · u38 q)<|zw q (lB 1000 · u35 q)<|zw q (lS · q u35)<|zw q (bF 5 · u38 q)<|zw q (lB 1001 · u35 q)<|zw q (lS · q u35)<|zw q (fun s => yl_b (y_neqN (i := ((t_.LexRules).length)) (j := ((t_'.LexRules).length)) s q q) F1)<|fw q<|mw q<|gw q<|gw q<|gw q<|gw q<|gw q<|gw q<|gw q<|tw_ q<|nw fun a s => ?_
   exact ⟨(true), hg, (s.sb q q q)⟩
  have F1 := decide_eq_false y0
  replace hg := br_f hg y0
  refine S s<|lw<|yw q (bF 4 · u38 q)<|yw q (lB 1000 · u34 q)<|yw q (lS · q u34)<|yw q (bF 4 · u38 q)<|yw q (lB 1001 · u34 q)<|yw q (lS · q u34)<|yw q (fun s => yl_b (y_neqN (i := ((t_.Entries).length)) (j := ((t_'.Entries).length)) s q q) s1)<|mw q<|zw q (bF 5 · u38 q)<|zw q (lB 1000 · u35 q)<|zw q (lS · q u35)<|zw q (bF 5 · u38 q)<|zw q (lB 1001 · u35 q)<|zw q (lS · q u35)<|zw q (fun s => yl_b (y_neqN (i := ((t_.LexRules).length)) (j := ((t_'.LexRules).length)) s q q) F1)<|fw q<|mw q<|zw q (bF 8 · u38 q)<|zw q (lB 1000 · u36 q)<|zw q (lS · q u36)<|zw q (bF 8 · u38 q)<|zw q (lB 1001 · u36 q)<|zw q (lS · q u36)<|zw q (y_neqN (i := ((t_.Checks).length)) (j := ((t_'.Checks).length)) · q q)<|fw q<|nw fun a s => ?_
  exact ⟨(decide (((t_.Checks).length) ≠ ((t_'.Checks).length))), hg, (s.sb q q q)⟩
 clear s a; rintro a w ⟨I1, hg, s⟩
 subst P7
 refine c_cond s q (fun z1 => ?_) (fun z1 => ?_)
 ·replace hg := br_t hg z1
  refine S s<|vw<|aw q<|nw fun a s => ?_
  apply wp_ret
  refine p_thenR ?_
  obtain rfl := si hg
  exact fin1 (fn := Tryz.f50) s q (r_tmp s q) q
 replace hg := br_n hg z1
 refine S s<|kw<|pw<|sw<|vw<|aw q<|nw fun a s => ?_
 obtain ⟨Q3, hg, K7⟩ := jn_some hg
 refine c_post (fun a w => Q3 = some r ∧ St (cx f50 M w0) [(2, vP b3 0), (3, vP b4 0)] [(1000, Ob.box b3 B 38), (1001, Ob.box b4 C 38)] F a w) ?_ ?_
 ·apply wp_block
  refine c_loop (σ := Nat) (fun m1 a w => ∃ (n0 : Nat), r21_sameLists_L0 n t_ t_' Q3 m1 n0 = some r ∧ St (cx f50 M w0) [(2, vP b3 0), (3, vP b4 0), (5, vI (((n0 : Nat) : Int)))] [(1000, Ob.box b3 B 38), (1001, Ob.box b4 C 38)] F a w) (fun m1 => m1) n ⟨(0), hg, (s.sb q q q)⟩ ?_
  clear s a; rintro m1 a w ⟨n0, hg, s⟩
  rcases m1 with _ | m1
  ·rw [r21_sameLists_L0] at hg; cases hg
  rw [r21_sameLists_L0] at hg
  refine S s<|sw<|vw<|mw q<|yw q (bF 4 · u38 q)<|yw q (lB 1000 · u34 q)<|yw q (lS · q u34)<|yw q (y_lssN (i := n0) (j := ((t_.Entries).length)) · q q)<|nw fun a s => c_dec s q (fun t1 => ?_) (fun t1 => ?_)
  ·replace hg := br_t hg t1
   have pE := SlR.mx (s.ft 104 q)
   refine S s<|kw<|pw<|sw<|bw<|sw fun a s => ?_
   obtain ⟨en, hg, L7⟩ := jn_some hg
   refine c_post (fun a w => ∃ (G1 : Bool), en G1 = some r ∧ St (cx f50 M w0) [(2, vP b3 0), (3, vP b4 0), (5, vI (((n0 : Nat) : Int))), (71, .bool (G1))] [(1000, Ob.box b3 B 38), (1001, Ob.box b4 C 38)] F a w) ?_ ?_
   ·obtain ⟨c0, h0, hg⟩ := bind_some hg
    obtain ⟨d0, i0, hg⟩ := bind_some hg
    obtain ⟨eq, M3, hg⟩ := bind_some hg
    rcases Bool.eq_false_or_eq_true (!(eq)) with v0 | v0
    ·replace hg := br_t hg v0
     refine d_steps s [] q ?_; clear s; intro wr hZ s; have hR := s.wd; have hE := Ext.init hR 0
     refine S s<|nqw 0 0 hR q (bF 4 · u38 q)<|nqw 1 1000 hR q (lB 1000 · u34 q)<|nqw 2 0 hR q (mo · q) fun a s => ?_
     obtain ⟨sH, D3, pZ⟩ := SlR.elemX (s.ft 104 q) h0
     refine S s<|nqw 3 0 hR q (eL 7 n0 · u34 D3 (lt_of_get h0) q)<|nqw 4 0 hR q (pF 0 · u89 q) fun a s => ?_
     obtain ⟨w8, z9, nv, m7, k6⟩ := (SlR.again (s.ft 104 q) h0 D3)
     obtain ⟨gT, kZ, gU, la, ha, lg, hc, lh, rfl, cM, ry, rz, cN, cS, cT⟩ := REntryDecl.open m7
     refine S s<|nsw 127 cM<|nsw 128 cN<|nsw 129 cS<|nsw 130 cT<|nqw 5 0 hR q (lP · w8 z9 (k6 0 _ q) u25 q)<|nqw 6 0 hR q (bF 4 · u38 q)<|nqw 7 1001 hR q (lB 1001 · u34 q)<|nqw 8 0 hR q (mo · q) fun a s => ?_
     obtain ⟨sI, E3, qa⟩ := SlR.elemX (s.ft 113 q) i0
     refine S s<|nqw 9 0 hR q (eL 7 n0 · u34 E3 (lt_of_get i0) q)<|nqw 10 0 hR q (pF 0 · u89 q) fun a s => ?_
     obtain ⟨B8, E9, nA, q7, o6⟩ := (SlR.again (s.ft 113 q) i0 E3)
     obtain ⟨hm, lq, hs, lx, ht, ly, hu, lz, rfl, dc, rI, rJ, dh, di, dj⟩ := REntryDecl.open q7
     refine S s<|nsw 131 dc<|nsw 132 dh<|nsw 133 di<|nsw 134 dj<|nqw 11 0 hR q (lP · B8 E9 (o6 0 _ q) u25 q) fun a s => ?_
     refine nC 12 s q q func14 (c_r01_Same n _ _ s.lt _ _ _ (s.ft 127 q) _ _ _ (s.ft 131 q) _ M3) fun tD a w hK hp s => ?_
     refine gk hE hZ hK fun hE hZ => ?_; clear hK
     obtain rfl := hp
     refine S s<|nzw 13 q (fun s => yl_b (y_not s q) v0)<|nzw 14 q (mo · q)<|nfw 15 hE q<|nfw 16 hE q<|nfw 17 hE q<|nfw 18 hE q<|nfw 19 hE q<|nfw 20 hE q<|nfw 21 hE q<|nfw 22 hE q<|nfw 23 hE q<|npw 24 q<|npw 25 q<|npw 26 q<|npw 27 q<|npw 28 q<|npw 29 q<|npw 30 q<|nzw 31 q (pT · q q) fun a s => ?_
     refine n_end (by kernel_rfl) ?_; clear hR hZ hE
     apply pN
     exact ⟨(true), hg, (s.sb q q q)⟩
    replace hg := br_n hg v0
    obtain ⟨m0, k0, hg⟩ := bind_some hg
    refine d_steps s [] q ?_; clear s; intro wr hZ s; have hR := s.wd; have hE := Ext.init hR 0
    refine S s<|nqw 0 0 hR q (bF 4 · u38 q)<|nqw 1 1000 hR q (lB 1000 · u34 q)<|nqw 2 0 hR q (mo · q) fun a s => ?_
    obtain ⟨sN, G3, qd⟩ := SlR.elemX (s.ft 104 q) h0
    refine S s<|nqw 3 0 hR q (eL 7 n0 · u34 G3 (lt_of_get h0) q)<|nqw 4 0 hR q (pF 0 · u89 q) fun a s => ?_
    obtain ⟨G8, J9, nG, v7, t6⟩ := (SlR.again (s.ft 104 q) h0 G3)
    obtain ⟨hC, lJ, hD, lK, hF, lL, hG, lM, rfl, dp, rM, rO, dq, dr, ds⟩ := REntryDecl.open v7
    refine S s<|nsw 147 dp<|nsw 148 dq<|nsw 149 dr<|nsw 150 ds<|nqw 5 0 hR q (lP · G8 J9 (t6 0 _ q) u25 q)<|nqw 6 0 hR q (bF 4 · u38 q)<|nqw 7 1001 hR q (lB 1001 · u34 q)<|nqw 8 0 hR q (mo · q) fun a s => ?_
    obtain ⟨sO, H3, qe⟩ := SlR.elemX (s.ft 113 q) i0
    refine S s<|nqw 9 0 hR q (eL 7 n0 · u34 H3 (lt_of_get i0) q)<|nqw 10 0 hR q (pF 0 · u89 q) fun a s => ?_
    obtain ⟨H8, K9, nH, w7, u6⟩ := (SlR.again (s.ft 113 q) i0 H3)
    obtain ⟨hH, lN, hI, lO, hJ, lQ, hL, lR, rfl, dt, rP, rQ, du, dv, dw⟩ := REntryDecl.open w7
    refine S s<|nsw 151 dt<|nsw 152 du<|nsw 153 dv<|nsw 154 dw<|nqw 11 0 hR q (lP · H8 K9 (u6 0 _ q) u25 q) fun a s => ?_
    refine nC 12 s q q func14 (c_r01_Same n _ _ s.lt _ _ _ (s.ft 147 q) _ _ _ (s.ft 151 q) _ M3) fun tF a w hK hp s => ?_
    refine gk hE hZ hK fun hE hZ => ?_; clear hK
    obtain rfl := hp
    refine S s<|nzw 13 q (fun s => yl_b (y_not s q) v0)<|nzw 14 q (mo · q)<|new 15 hE q (fun w' s => y_boxField (o' := 4) s q u38 q q q)<|new 17 hE q (fun w' s => y_move s q)<|new 22 hE q (fun w' s => y_boxField (o' := 4) s q u38 q q q)<|new 24 hE q (fun w' s => y_move s q) fun a s => ?_
    refine n_2 16 23 s (by kernel_rfl) q ⟨_, _, _, q, q, q, q⟩ q ⟨_, _, _, q, q, q, q⟩ ?_ ?_
    ·refine l_quiet s q q (lB 1000 s u34 q) fun a s => ?_; refine ⟨fun g _ h => h, ?_⟩
     obtain ⟨sP, t0, qf⟩ := SlR.elemX (s.ft 104 q) h0
     refine S s<|new 18 hE q (fun w' s => y_elem (sz := 7) (i := n0) s q q u34 q t0 q (lt_of_get h0))<|new 19 hE q (fun w' s => y_ptrField (o' := 1) s q u89 q q q) fun a s => ?_
     refine n_2 20 23 s (by kernel_rfl) q ⟨_, _, _, q, q, q, q⟩ q ⟨_, _, _, q, q, q, q⟩ ?_ ?_
     ·obtain ⟨I8, L9, nI, x7, v6⟩ := (SlR.again (s.ft 104 q) h0 t0)
      obtain ⟨hN, lT, hO, lU, hP, lW, hQ, lX, rfl, dx, rR, rS, dy, dz, dA⟩ := REntryDecl.open x7
      replace s := s.ns 155 dx |>.ns 156 dy |>.ns 157 dz |>.ns 158 dA
      refine l_quiet s q q (lD [_, _, _, _, _, _] 1 s I8 L9 v6 u62 q) fun a s => ?_; refine ⟨fun g _ h => h, ?_⟩
      refine n_2 21 23 s (by kernel_rfl) q ⟨_, _, _, q, q, q, q⟩ q ⟨_, _, _, q, q, q, q⟩ ?_ ?_
      ·refine l_buildDense (sz := 6) s 1621 q q q u33 q q q q q q q fun i5 a w Y2 hK s => ?_
       have ph := NewA.lit hZ Y2
       clear Y2
       refine gk hE hZ hK fun hE hZ => ?_; clear hK
       refine S s<|nzw 23 q (lB 1001 · u34 q) fun a s => ?_
       obtain ⟨sQ, I3, qh⟩ := SlR.elemX (s.ft 113 q) i0
       refine S s<|nzw 25 q (eL 7 n0 · u34 I3 (lt_of_get i0) q)<|nzw 26 q (pF 1 · u89 q) fun a s => ?_
       obtain ⟨J8, M9, nJ, y7, w6⟩ := (SlR.again (s.ft 113 q) i0 I3)
       obtain ⟨hS, lY, hU, lZ, hV, ma, hW, mb, rfl, dB, rT, rU, dC, dD, dE⟩ := REntryDecl.open y7
       refine S s<|nsw 159 dB<|nsw 160 dC<|nsw 161 dD<|nsw 162 dE<|nzw 27 q (lD [_, _, _, _, _, _] 1 · J8 M9 w6 u62 q) fun a s => ?_
       refine n_1 28 s (by kernel_rfl) q ⟨_, _, _, q, q, q, q⟩ (l_buildDense (sz := 6) s 1628 q q q u33 q q q q q q q fun j5 a w Z2 hK s => ?_)
       have pi := NewA.lit hZ Z2
       clear Z2
       refine gk hE hZ hK fun hE hZ => ?_; clear hK
       replace s := s.add 163 (rdF RDef (cellsOfL [.agg #[_, _, _, _, _, _]]) ([c0.Def])) (RdAll.cons (by exact (RDef.mk' (x := c0.Def) (by omega) (by omega) (s.ft 156 q) (s.ft 157 q) (s.ft 158 q))) (rN))
       replace s := s.add 164 (rdF RDef (cellsOfL [.agg #[_, _, _, _, _, _]]) ([d0.Def])) (RdAll.cons (by exact (RDef.mk' (x := d0.Def) (by omega) (by omega) (s.ft 160 q) (s.ft 161 q) (s.ft 162 q))) (rN))
       have hT := s
       replace hT := hT.fz (R := RDef) (kk := 1621) [1000, 1001, 1628] 165 q q (hT.ft 163 q) q
       replace hT := hT.fz (R := RDef) (kk := 1628) [1000, 1001] 166 q q (hT.ft 164 q) q
       refine nC 29 s q q func49 (c_r21_sameDefs n _ _ hT.lt [c0.Def] (some ⟨i5, 0, none⟩) (1) (hT.ft 165 q) [d0.Def] (some ⟨j5, 0, none⟩) (1) (hT.ft 166 q) _ k0) fun tG a w hK hp s => ?_
       refine gk hE hZ hK fun hE hZ => ?_; clear hK
       obtain rfl := hp
       refine S s<|nzw 30 q (y_not · q)<|nzw 31 q (pO · q q) fun a s => ?_
       refine n_end (by kernel_rfl) ?_; clear hR hZ hE
       apply pN
       exact ⟨(!(m0)), hg, (s.sb q q q)⟩
      ·refine l_quiet s q q (lB 1001 s u34 q) fun a s => ?_; refine ⟨fun g _ h => h, ?_⟩
       obtain ⟨sS, E1, qi⟩ := SlR.elemX (s.ft 113 q) i0
       refine S s<|new 25 hE q (fun w' s => y_elem (sz := 7) (i := n0) s q q u34 q E1 q (lt_of_get i0))<|new 26 hE q (fun w' s => y_ptrField (o' := 1) s q u89 q q q) fun a s => ?_
       refine n_2 21 27 s (by kernel_rfl) q ⟨_, _, _, q, q, q, q⟩ q ⟨_, _, _, q, q, q, q⟩ ?_ ?_
       ·refine l_buildDense (sz := 6) s 1621 q q q u33 q q q q q q q fun l5 a w a3 hK s => ?_
        have pj := NewA.lit hZ a3
        clear a3
        refine gk hE hZ hK fun hE hZ => ?_; clear hK
        obtain ⟨K8, O9, nK, z7, x6⟩ := (SlR.again (s.ft 113 q) i0 E1)
        obtain ⟨hX, mc, hY, md, ia, mf, ib, mg, rfl, dF, rV, rW, dG, dH, dI⟩ := REntryDecl.open z7
        refine S s<|nsw 167 dF<|nsw 168 dG<|nsw 169 dH<|nsw 170 dI<|nzw 27 q (lD [_, _, _, _, _, _] 1 · K8 O9 x6 u62 q) fun a s => ?_
        refine n_1 28 s (by kernel_rfl) q ⟨_, _, _, q, q, q, q⟩ (l_buildDense (sz := 6) s 1628 q q q u33 q q q q q q q fun m5 a w c3 hK s => ?_)
        have pl := NewA.lit hZ c3
        clear c3
        refine gk hE hZ hK fun hE hZ => ?_; clear hK
        replace s := s.add 171 (rdF RDef (cellsOfL [.agg #[_, _, _, _, _, _]]) ([c0.Def])) (RdAll.cons (by exact (RDef.mk' (x := c0.Def) (by omega) (by omega) (s.ft 156 q) (s.ft 157 q) (s.ft 158 q))) (rN))
        replace s := s.add 172 (rdF RDef (cellsOfL [.agg #[_, _, _, _, _, _]]) ([d0.Def])) (RdAll.cons (by exact (RDef.mk' (x := d0.Def) (by omega) (by omega) (s.ft 168 q) (s.ft 169 q) (s.ft 170 q))) (rN))
        have hT := s
        replace hT := hT.fz (R := RDef) (kk := 1621) [1000, 1001, 1628] 173 q q (hT.ft 171 q) q
        replace hT := hT.fz (R := RDef) (kk := 1628) [1000, 1001] 174 q q (hT.ft 172 q) q
        refine nC 29 s q q func49 (c_r21_sameDefs n _ _ hT.lt [c0.Def] (some ⟨l5, 0, none⟩) (1) (hT.ft 173 q) [d0.Def] (some ⟨m5, 0, none⟩) (1) (hT.ft 174 q) _ k0) fun tH a w hK hp s => ?_
        refine gk hE hZ hK fun hE hZ => ?_; clear hK
        obtain rfl := hp
        refine S s<|nzw 30 q (y_not · q)<|nzw 31 q (pO · q q) fun a s => ?_
        refine n_end (by kernel_rfl) ?_; clear hR hZ hE
        apply pN
        exact ⟨(!(m0)), hg, (s.sb q q q)⟩
       ·obtain ⟨L8, P9, nL, B7, y6⟩ := (SlR.again (s.ft 113 q) i0 E1)
        obtain ⟨ic, mh, ie, mi, ig, mj, ih, mk, rfl, dJ, rX, rY, dK, dL, dM⟩ := REntryDecl.open B7
        replace s := s.ns 175 dJ |>.ns 176 dK |>.ns 177 dL |>.ns 178 dM
        refine l_quiet s q q (lD [_, _, _, _, _, _] 1 s L8 P9 y6 u62 q) fun a s => ?_; refine ⟨fun g _ h => h, ?_⟩
        refine n_2 21 28 s (by kernel_rfl) q ⟨_, _, _, q, q, q, q⟩ q ⟨_, _, _, q, q, q, q⟩ ?_ ?_
        ·refine l_buildDense (sz := 6) s 1621 q q q u33 q q q q q q q fun n5 a w d3 hK s => ?_
         have pm := NewA.lit hZ d3
         clear d3
         refine gk hE hZ hK fun hE hZ => ?_; clear hK
         refine n_1 28 s (by kernel_rfl) q ⟨_, _, _, q, q, q, q⟩ (l_buildDense (sz := 6) s 1628 q q q u33 q q q q q q q fun o5 a w e3 hK s => ?_)
         have pn := NewA.lit hZ e3
         clear e3
         refine gk hE hZ hK fun hE hZ => ?_; clear hK
         replace s := s.add 179 (rdF RDef (cellsOfL [.agg #[_, _, _, _, _, _]]) ([c0.Def])) (RdAll.cons (by exact (RDef.mk' (x := c0.Def) (by omega) (by omega) (s.ft 156 q) (s.ft 157 q) (s.ft 158 q))) (rN))
         replace s := s.add 180 (rdF RDef (cellsOfL [.agg #[_, _, _, _, _, _]]) ([d0.Def])) (RdAll.cons (by exact (RDef.mk' (x := d0.Def) (by omega) (by omega) (s.ft 176 q) (s.ft 177 q) (s.ft 178 q))) (rN))
         have hT := s
         replace hT := hT.fz (R := RDef) (kk := 1621) [1000, 1001, 1628] 181 q q (hT.ft 179 q) q
         replace hT := hT.fz (R := RDef) (kk := 1628) [1000, 1001] 182 q q (hT.ft 180 q) q
         refine nC 29 s q q func49 (c_r21_sameDefs n _ _ hT.lt [c0.Def] (some ⟨n5, 0, none⟩) (1) (hT.ft 181 q) [d0.Def] (some ⟨o5, 0, none⟩) (1) (hT.ft 182 q) _ k0) fun tI a w hK hp s => ?_
         refine gk hE hZ hK fun hE hZ => ?_; clear hK
         obtain rfl := hp
         refine S s<|nzw 30 q (y_not · q)<|nzw 31 q (pO · q q) fun a s => ?_
         refine n_end (by kernel_rfl) ?_; clear hR hZ hE
         apply pN
         exact ⟨(!(m0)), hg, (s.sb q q q)⟩
        ·refine l_buildDense (sz := 6) s 1628 q q q u33 q q q q q q q fun p5 a w g3 hK s => ?_
         have po := NewA.lit hZ g3
         clear g3
         refine gk hE hZ hK fun hE hZ => ?_; clear hK
         refine n_1 21 s (by kernel_rfl) q ⟨_, _, _, q, q, q, q⟩ (l_buildDense (sz := 6) s 1621 q q q u33 q q q q q q q fun q5 a w h3 hK s => ?_)
         have pp := NewA.lit hZ h3
         clear h3
         refine gk hE hZ hK fun hE hZ => ?_; clear hK
         replace s := s.add 183 (rdF RDef (cellsOfL [.agg #[_, _, _, _, _, _]]) ([c0.Def])) (RdAll.cons (by exact (RDef.mk' (x := c0.Def) (by omega) (by omega) (s.ft 156 q) (s.ft 157 q) (s.ft 158 q))) (rN))
         replace s := s.add 184 (rdF RDef (cellsOfL [.agg #[_, _, _, _, _, _]]) ([d0.Def])) (RdAll.cons (by exact (RDef.mk' (x := d0.Def) (by omega) (by omega) (s.ft 176 q) (s.ft 177 q) (s.ft 178 q))) (rN))
         have hT := s
         replace hT := hT.fz (R := RDef) (kk := 1621) [1000, 1001, 1628] 185 q q (hT.ft 183 q) q
         replace hT := hT.fz (R := RDef) (kk := 1628) [1000, 1001] 186 q q (hT.ft 184 q) q
         refine nC 29 s q q func49 (c_r21_sameDefs n _ _ hT.lt [c0.Def] (some ⟨q5, 0, none⟩) (1) (hT.ft 185 q) [d0.Def] (some ⟨p5, 0, none⟩) (1) (hT.ft 186 q) _ k0) fun tJ a w hK hp s => ?_
         refine gk hE hZ hK fun hE hZ => ?_; clear hK
         obtain rfl := hp
         refine S s<|nzw 30 q (y_not · q)<|nzw 31 q (pO · q q) fun a s => ?_
         refine n_end (by kernel_rfl) ?_; clear hR hZ hE
         apply pN
         exact ⟨(!(m0)), hg, (s.sb q q q)⟩
     ·refine l_quiet s q q (lB 1001 s u34 q) fun a s => ?_; refine ⟨fun g _ h => h, ?_⟩
      obtain ⟨sT, r1, qj⟩ := SlR.elemX (s.ft 113 q) i0
      refine S s<|new 25 hE q (fun w' s => y_elem (sz := 7) (i := n0) s q q u34 q r1 q (lt_of_get i0))<|new 26 hE q (fun w' s => y_ptrField (o' := 1) s q u89 q q q) fun a s => ?_
      refine n_2 20 27 s (by kernel_rfl) q ⟨_, _, _, q, q, q, q⟩ q ⟨_, _, _, q, q, q, q⟩ ?_ ?_
      ·obtain ⟨M8, Q9, nM, C7, z6⟩ := (SlR.again (s.ft 104 q) h0 t0)
       obtain ⟨ii, ml, ij, mm, ik, mn, il, mp, rfl, dN, rZ, sa, dO, dP, dQ⟩ := REntryDecl.open C7
       replace s := s.ns 187 dN |>.ns 188 dO |>.ns 189 dP |>.ns 190 dQ
       refine l_quiet s q q (lD [_, _, _, _, _, _] 1 s M8 Q9 z6 u62 q) fun a s => ?_; refine ⟨fun g _ h => h, ?_⟩
       refine n_2 21 27 s (by kernel_rfl) q ⟨_, _, _, q, q, q, q⟩ q ⟨_, _, _, q, q, q, q⟩ ?_ ?_
       ·refine l_buildDense (sz := 6) s 1621 q q q u33 q q q q q q q fun r5 a w i3 hK s => ?_
        have pq := NewA.lit hZ i3
        clear i3
        refine gk hE hZ hK fun hE hZ => ?_; clear hK
        obtain ⟨O8, R9, nN, D7, B6⟩ := (SlR.again (s.ft 113 q) i0 r1)
        obtain ⟨im, mq, io, mr, ip, ms, iq, mt, rfl, dR, sc, sd, dS, dT, dU⟩ := REntryDecl.open D7
        refine S s<|nsw 191 dR<|nsw 192 dS<|nsw 193 dT<|nsw 194 dU<|nzw 27 q (lD [_, _, _, _, _, _] 1 · O8 R9 B6 u62 q) fun a s => ?_
        refine n_1 28 s (by kernel_rfl) q ⟨_, _, _, q, q, q, q⟩ (l_buildDense (sz := 6) s 1628 q q q u33 q q q q q q q fun s5 a w j3 hK s => ?_)
        have pr := NewA.lit hZ j3
        clear j3
        refine gk hE hZ hK fun hE hZ => ?_; clear hK
        replace s := s.add 195 (rdF RDef (cellsOfL [.agg #[_, _, _, _, _, _]]) ([c0.Def])) (RdAll.cons (by exact (RDef.mk' (x := c0.Def) (by omega) (by omega) (s.ft 188 q) (s.ft 189 q) (s.ft 190 q))) (rN))
        replace s := s.add 196 (rdF RDef (cellsOfL [.agg #[_, _, _, _, _, _]]) ([d0.Def])) (RdAll.cons (by exact (RDef.mk' (x := d0.Def) (by omega) (by omega) (s.ft 192 q) (s.ft 193 q) (s.ft 194 q))) (rN))
        have hT := s
        replace hT := hT.fz (R := RDef) (kk := 1621) [1000, 1001, 1628] 197 q q (hT.ft 195 q) q
        replace hT := hT.fz (R := RDef) (kk := 1628) [1000, 1001] 198 q q (hT.ft 196 q) q
        refine nC 29 s q q func49 (c_r21_sameDefs n _ _ hT.lt [c0.Def] (some ⟨r5, 0, none⟩) (1) (hT.ft 197 q) [d0.Def] (some ⟨s5, 0, none⟩) (1) (hT.ft 198 q) _ k0) fun tK a w hK hp s => ?_
        refine gk hE hZ hK fun hE hZ => ?_; clear hK
        obtain rfl := hp
        refine S s<|nzw 30 q (y_not · q)<|nzw 31 q (pO · q q) fun a s => ?_
        refine n_end (by kernel_rfl) ?_; clear hR hZ hE
        apply pN
        exact ⟨(!(m0)), hg, (s.sb q q q)⟩
       ·obtain ⟨P8, S9, nO, E7, C6⟩ := (SlR.again (s.ft 113 q) i0 r1)
        obtain ⟨ir, mz, iu, mA, iv, mB, iw, mC, rfl, dV, se, sf, dW, dX, dY⟩ := REntryDecl.open E7
        replace s := s.ns 199 dV |>.ns 200 dW |>.ns 201 dX |>.ns 202 dY
        refine l_quiet s q q (lD [_, _, _, _, _, _] 1 s P8 S9 C6 u62 q) fun a s => ?_; refine ⟨fun g _ h => h, ?_⟩
        refine n_2 21 28 s (by kernel_rfl) q ⟨_, _, _, q, q, q, q⟩ q ⟨_, _, _, q, q, q, q⟩ ?_ ?_
        ·refine l_buildDense (sz := 6) s 1621 q q q u33 q q q q q q q fun t5 a w k3 hK s => ?_
         have pt := NewA.lit hZ k3
         clear k3
         refine gk hE hZ hK fun hE hZ => ?_; clear hK
         refine n_1 28 s (by kernel_rfl) q ⟨_, _, _, q, q, q, q⟩ (l_buildDense (sz := 6) s 1628 q q q u33 q q q q q q q fun u5 a w l3 hK s => ?_)
         have pu := NewA.lit hZ l3
         clear l3
         refine gk hE hZ hK fun hE hZ => ?_; clear hK
         replace s := s.add 203 (rdF RDef (cellsOfL [.agg #[_, _, _, _, _, _]]) ([c0.Def])) (RdAll.cons (by exact (RDef.mk' (x := c0.Def) (by omega) (by omega) (s.ft 188 q) (s.ft 189 q) (s.ft 190 q))) (rN))
         replace s := s.add 204 (rdF RDef (cellsOfL [.agg #[_, _, _, _, _, _]]) ([d0.Def])) (RdAll.cons (by exact (RDef.mk' (x := d0.Def) (by omega) (by omega) (s.ft 200 q) (s.ft 201 q) (s.ft 202 q))) (rN))
         have hT := s
         replace hT := hT.fz (R := RDef) (kk := 1621) [1000, 1001, 1628] 205 q q (hT.ft 203 q) q
         replace hT := hT.fz (R := RDef) (kk := 1628) [1000, 1001] 206 q q (hT.ft 204 q) q
         refine nC 29 s q q func49 (c_r21_sameDefs n _ _ hT.lt [c0.Def] (some ⟨t5, 0, none⟩) (1) (hT.ft 205 q) [d0.Def] (some ⟨u5, 0, none⟩) (1) (hT.ft 206 q) _ k0) fun tL a w hK hp s => ?_
         refine gk hE hZ hK fun hE hZ => ?_; clear hK
         obtain rfl := hp
         refine S s<|nzw 30 q (y_not · q)<|nzw 31 q (pO · q q) fun a s => ?_
         refine n_end (by kernel_rfl) ?_; clear hR hZ hE
         apply pN
         exact ⟨(!(m0)), hg, (s.sb q q q)⟩
        ·refine l_buildDense (sz := 6) s 1628 q q q u33 q q q q q q q fun v5 a w n3 hK s => ?_
         have pv := NewA.lit hZ n3
         clear n3
         refine gk hE hZ hK fun hE hZ => ?_; clear hK
         refine n_1 21 s (by kernel_rfl) q ⟨_, _, _, q, q, q, q⟩ (l_buildDense (sz := 6) s 1621 q q q u33 q q q q q q q fun w5 a w o3 hK s => ?_)
         have px := NewA.lit hZ o3
         clear o3
         refine gk hE hZ hK fun hE hZ => ?_; clear hK
         replace s := s.add 207 (rdF RDef (cellsOfL [.agg #[_, _, _, _, _, _]]) ([c0.Def])) (RdAll.cons (by exact (RDef.mk' (x := c0.Def) (by omega) (by omega) (s.ft 188 q) (s.ft 189 q) (s.ft 190 q))) (rN))
         replace s := s.add 208 (rdF RDef (cellsOfL [.agg #[_, _, _, _, _, _]]) ([d0.Def])) (RdAll.cons (by exact (RDef.mk' (x := d0.Def) (by omega) (by omega) (s.ft 200 q) (s.ft 201 q) (s.ft 202 q))) (rN))
         have hT := s
         replace hT := hT.fz (R := RDef) (kk := 1621) [1000, 1001, 1628] 209 q q (hT.ft 207 q) q
         replace hT := hT.fz (R := RDef) (kk := 1628) [1000, 1001] 210 q q (hT.ft 208 q) q
         refine nC 29 s q q func49 (c_r21_sameDefs n _ _ hT.lt [c0.Def] (some ⟨w5, 0, none⟩) (1) (hT.ft 209 q) [d0.Def] (some ⟨v5, 0, none⟩) (1) (hT.ft 210 q) _ k0) fun tM a w hK hp s => ?_
         refine gk hE hZ hK fun hE hZ => ?_; clear hK
         obtain rfl := hp
         refine S s<|nzw 30 q (y_not · q)<|nzw 31 q (pO · q q) fun a s => ?_
         refine n_end (by kernel_rfl) ?_; clear hR hZ hE
         apply pN
         exact ⟨(!(m0)), hg, (s.sb q q q)⟩
      ·obtain ⟨Q8, T9, nP, F7, D6⟩ := (SlR.again (s.ft 113 q) i0 r1)
       obtain ⟨iy, mD, iz, mE, iA, mF, iB, mG, rfl, dZ, sg, sh, ea, eb, ec⟩ := REntryDecl.open F7
       replace s := s.ns 211 dZ |>.ns 212 ea |>.ns 213 eb |>.ns 214 ec
       refine l_quiet s q q (lD [_, _, _, _, _, _] 1 s Q8 T9 D6 u62 q) fun a s => ?_; refine ⟨fun g _ h => h, ?_⟩
       refine n_2 20 28 s (by kernel_rfl) q ⟨_, _, _, q, q, q, q⟩ q ⟨_, _, _, q, q, q, q⟩ ?_ ?_
       ·obtain ⟨R8, U9, nQ, G7, E6⟩ := (SlR.again (s.ft 104 q) h0 t0)
        obtain ⟨iC, mH, iD, mI, iE, mJ, iF, mK, rfl, ed, sj, sk, ee, ef, eg⟩ := REntryDecl.open G7
        replace s := s.ns 215 ed |>.ns 216 ee |>.ns 217 ef |>.ns 218 eg
        refine l_quiet s q q (lD [_, _, _, _, _, _] 1 s R8 U9 E6 u62 q) fun a s => ?_; refine ⟨fun g _ h => h, ?_⟩
        refine n_2 21 28 s (by kernel_rfl) q ⟨_, _, _, q, q, q, q⟩ q ⟨_, _, _, q, q, q, q⟩ ?_ ?_
        ·refine l_buildDense (sz := 6) s 1621 q q q u33 q q q q q q q fun x5 a w p3 hK s => ?_
         have py := NewA.lit hZ p3
         clear p3
         refine gk hE hZ hK fun hE hZ => ?_; clear hK
         refine n_1 28 s (by kernel_rfl) q ⟨_, _, _, q, q, q, q⟩ (l_buildDense (sz := 6) s 1628 q q q u33 q q q q q q q fun y5 a w q3 hK s => ?_)
         have pz := NewA.lit hZ q3
         clear q3
         refine gk hE hZ hK fun hE hZ => ?_; clear hK
         replace s := s.add 219 (rdF RDef (cellsOfL [.agg #[_, _, _, _, _, _]]) ([c0.Def])) (RdAll.cons (by exact (RDef.mk' (x := c0.Def) (by omega) (by omega) (s.ft 216 q) (s.ft 217 q) (s.ft 218 q))) (rN))
         replace s := s.add 220 (rdF RDef (cellsOfL [.agg #[_, _, _, _, _, _]]) ([d0.Def])) (RdAll.cons (by exact (RDef.mk' (x := d0.Def) (by omega) (by omega) (s.ft 212 q) (s.ft 213 q) (s.ft 214 q))) (rN))
         have hT := s
         replace hT := hT.fz (R := RDef) (kk := 1621) [1000, 1001, 1628] 221 q q (hT.ft 219 q) q
         replace hT := hT.fz (R := RDef) (kk := 1628) [1000, 1001] 222 q q (hT.ft 220 q) q
         refine nC 29 s q q func49 (c_r21_sameDefs n _ _ hT.lt [c0.Def] (some ⟨x5, 0, none⟩) (1) (hT.ft 221 q) [d0.Def] (some ⟨y5, 0, none⟩) (1) (hT.ft 222 q) _ k0) fun tN a w hK hp s => ?_
         refine gk hE hZ hK fun hE hZ => ?_; clear hK
         obtain rfl := hp
         refine S s<|nzw 30 q (y_not · q)<|nzw 31 q (pO · q q) fun a s => ?_
         refine n_end (by kernel_rfl) ?_; clear hR hZ hE
         apply pN
         exact ⟨(!(m0)), hg, (s.sb q q q)⟩
        ·refine l_buildDense (sz := 6) s 1628 q q q u33 q q q q q q q fun z5 a w r3 hK s => ?_
         have pA := NewA.lit hZ r3
         clear r3
         refine gk hE hZ hK fun hE hZ => ?_; clear hK
         refine n_1 21 s (by kernel_rfl) q ⟨_, _, _, q, q, q, q⟩ (l_buildDense (sz := 6) s 1621 q q q u33 q q q q q q q fun B5 a w s3 hK s => ?_)
         have pB := NewA.lit hZ s3
         clear s3
         refine gk hE hZ hK fun hE hZ => ?_; clear hK
         replace s := s.add 223 (rdF RDef (cellsOfL [.agg #[_, _, _, _, _, _]]) ([c0.Def])) (RdAll.cons (by exact (RDef.mk' (x := c0.Def) (by omega) (by omega) (s.ft 216 q) (s.ft 217 q) (s.ft 218 q))) (rN))
         replace s := s.add 224 (rdF RDef (cellsOfL [.agg #[_, _, _, _, _, _]]) ([d0.Def])) (RdAll.cons (by exact (RDef.mk' (x := d0.Def) (by omega) (by omega) (s.ft 212 q) (s.ft 213 q) (s.ft 214 q))) (rN))
         have hT := s
         replace hT := hT.fz (R := RDef) (kk := 1621) [1000, 1001, 1628] 225 q q (hT.ft 223 q) q
         replace hT := hT.fz (R := RDef) (kk := 1628) [1000, 1001] 226 q q (hT.ft 224 q) q
         refine nC 29 s q q func49 (c_r21_sameDefs n _ _ hT.lt [c0.Def] (some ⟨B5, 0, none⟩) (1) (hT.ft 225 q) [d0.Def] (some ⟨z5, 0, none⟩) (1) (hT.ft 226 q) _ k0) fun tO a w hK hp s => ?_
         refine gk hE hZ hK fun hE hZ => ?_; clear hK
         obtain rfl := hp
         refine S s<|nzw 30 q (y_not · q)<|nzw 31 q (pO · q q) fun a s => ?_
         refine n_end (by kernel_rfl) ?_; clear hR hZ hE
         apply pN
         exact ⟨(!(m0)), hg, (s.sb q q q)⟩
       ·refine l_buildDense (sz := 6) s 1628 q q q u33 q q q q q q q fun C5 a w t3 hK s => ?_
        have pC := NewA.lit hZ t3
        clear t3
        refine gk hE hZ hK fun hE hZ => ?_; clear hK
        obtain ⟨S8, V9, nR, H7, F6⟩ := (SlR.again (s.ft 104 q) h0 t0)
        obtain ⟨iG, mL, iH, mM, iI, mN, iJ, mO, rfl, eh, sm, sn, ei, ej, ek⟩ := REntryDecl.open H7
        refine S s<|nsw 227 eh<|nsw 228 ei<|nsw 229 ej<|nsw 230 ek<|nzw 20 q (lD [_, _, _, _, _, _] 1 · S8 V9 F6 u62 q) fun a s => ?_
        refine n_1 21 s (by kernel_rfl) q ⟨_, _, _, q, q, q, q⟩ (l_buildDense (sz := 6) s 1621 q q q u33 q q q q q q q fun D5 a w v3 hK s => ?_)
        have pD := NewA.lit hZ v3
        clear v3
        refine gk hE hZ hK fun hE hZ => ?_; clear hK
        replace s := s.add 231 (rdF RDef (cellsOfL [.agg #[_, _, _, _, _, _]]) ([c0.Def])) (RdAll.cons (by exact (RDef.mk' (x := c0.Def) (by omega) (by omega) (s.ft 228 q) (s.ft 229 q) (s.ft 230 q))) (rN))
        replace s := s.add 232 (rdF RDef (cellsOfL [.agg #[_, _, _, _, _, _]]) ([d0.Def])) (RdAll.cons (by exact (RDef.mk' (x := d0.Def) (by omega) (by omega) (s.ft 212 q) (s.ft 213 q) (s.ft 214 q))) (rN))
        have hT := s
        replace hT := hT.fz (R := RDef) (kk := 1621) [1000, 1001, 1628] 233 q q (hT.ft 231 q) q
        replace hT := hT.fz (R := RDef) (kk := 1628) [1000, 1001] 234 q q (hT.ft 232 q) q
        refine nC 29 s q q func49 (c_r21_sameDefs n _ _ hT.lt [c0.Def] (some ⟨D5, 0, none⟩) (1) (hT.ft 233 q) [d0.Def] (some ⟨C5, 0, none⟩) (1) (hT.ft 234 q) _ k0) fun tP a w hK hp s => ?_
        refine gk hE hZ hK fun hE hZ => ?_; clear hK
        obtain rfl := hp
        refine S s<|nzw 30 q (y_not · q)<|nzw 31 q (pO · q q) fun a s => ?_
        refine n_end (by kernel_rfl) ?_; clear hR hZ hE
        apply pN
        exact ⟨(!(m0)), hg, (s.sb q q q)⟩
    ·refine l_quiet s q q (lB 1001 s u34 q) fun a s => ?_; refine ⟨fun g _ h => h, ?_⟩
     obtain ⟨sq, q0, pI⟩ := SlR.elemX (s.ft 113 q) i0
     refine S s<|new 25 hE q (fun w' s => y_elem (sz := 7) (i := n0) s q q u34 q q0 q (lt_of_get i0))<|new 26 hE q (fun w' s => y_ptrField (o' := 1) s q u89 q q q) fun a s => ?_
     refine n_2 16 27 s (by kernel_rfl) q ⟨_, _, _, q, q, q, q⟩ q ⟨_, _, _, q, q, q, q⟩ ?_ ?_
     ·refine l_quiet s q q (lB 1000 s u34 q) fun a s => ?_; refine ⟨fun g _ h => h, ?_⟩
      obtain ⟨sr, o1, pJ⟩ := SlR.elemX (s.ft 104 q) h0
      refine S s<|new 18 hE q (fun w' s => y_elem (sz := 7) (i := n0) s q q u34 q o1 q (lt_of_get h0))<|new 19 hE q (fun w' s => y_ptrField (o' := 1) s q u89 q q q) fun a s => ?_
      refine n_2 20 27 s (by kernel_rfl) q ⟨_, _, _, q, q, q, q⟩ q ⟨_, _, _, q, q, q, q⟩ ?_ ?_
      ·obtain ⟨Q7, T8, mP, G6, E5⟩ := (SlR.again (s.ft 104 q) h0 o1)
       obtain ⟨er, iK, et, iL, eu, iM, ew, iN, rfl, ar, qm, qn, au, av, ax⟩ := REntryDecl.open G6
       replace s := s.ns 235 ar |>.ns 236 au |>.ns 237 av |>.ns 238 ax
       refine l_quiet s q q (lD [_, _, _, _, _, _] 1 s Q7 T8 E5 u62 q) fun a s => ?_; refine ⟨fun g _ h => h, ?_⟩
       refine n_2 21 27 s (by kernel_rfl) q ⟨_, _, _, q, q, q, q⟩ q ⟨_, _, _, q, q, q, q⟩ ?_ ?_
       ·refine l_buildDense (sz := 6) s 1621 q q q u33 q q q q q q q fun S3 a w J1 hK s => ?_
        have nT := NewA.lit hZ J1
        clear J1
        refine gk hE hZ hK fun hE hZ => ?_; clear hK
        obtain ⟨R7, U8, mQ, H6, F5⟩ := (SlR.again (s.ft 113 q) i0 q0)
        obtain ⟨ex, iO, ey, iP, ez, iQ, eA, iR, rfl, ay, qo, qp, az, aA, aB⟩ := REntryDecl.open H6
        refine S s<|nsw 239 ay<|nsw 240 az<|nsw 241 aA<|nsw 242 aB<|nzw 27 q (lD [_, _, _, _, _, _] 1 · R7 U8 F5 u62 q) fun a s => ?_
        refine n_1 28 s (by kernel_rfl) q ⟨_, _, _, q, q, q, q⟩ (l_buildDense (sz := 6) s 1628 q q q u33 q q q q q q q fun T3 a w K1 hK s => ?_)
        have nU := NewA.lit hZ K1
        clear K1
        refine gk hE hZ hK fun hE hZ => ?_; clear hK
        replace s := s.add 243 (rdF RDef (cellsOfL [.agg #[_, _, _, _, _, _]]) ([c0.Def])) (RdAll.cons (by exact (RDef.mk' (x := c0.Def) (by omega) (by omega) (s.ft 236 q) (s.ft 237 q) (s.ft 238 q))) (rN))
        replace s := s.add 244 (rdF RDef (cellsOfL [.agg #[_, _, _, _, _, _]]) ([d0.Def])) (RdAll.cons (by exact (RDef.mk' (x := d0.Def) (by omega) (by omega) (s.ft 240 q) (s.ft 241 q) (s.ft 242 q))) (rN))
        have hT := s
        replace hT := hT.fz (R := RDef) (kk := 1621) [1000, 1001, 1628] 245 q q (hT.ft 243 q) q
        replace hT := hT.fz (R := RDef) (kk := 1628) [1000, 1001] 246 q q (hT.ft 244 q) q
        refine nC 29 s q q func49 (c_r21_sameDefs n _ _ hT.lt [c0.Def] (some ⟨S3, 0, none⟩) (1) (hT.ft 245 q) [d0.Def] (some ⟨T3, 0, none⟩) (1) (hT.ft 246 q) _ k0) fun sV a w hK hp s => ?_
        refine gk hE hZ hK fun hE hZ => ?_; clear hK
        obtain rfl := hp
        refine S s<|nzw 30 q (y_not · q)<|nzw 31 q (pO · q q) fun a s => ?_
        refine n_end (by kernel_rfl) ?_; clear hR hZ hE
        apply pN
        exact ⟨(!(m0)), hg, (s.sb q q q)⟩
       ·obtain ⟨S7, V8, mR, I6, G5⟩ := (SlR.again (s.ft 113 q) i0 q0)
        obtain ⟨eB, iS, eC, iT, eD, iU, eE, iV, rfl, aC, qr, qs, aD, aE, aF⟩ := REntryDecl.open I6
        replace s := s.ns 247 aC |>.ns 248 aD |>.ns 249 aE |>.ns 250 aF
        refine l_quiet s q q (lD [_, _, _, _, _, _] 1 s S7 V8 G5 u62 q) fun a s => ?_; refine ⟨fun g _ h => h, ?_⟩
        refine n_2 21 28 s (by kernel_rfl) q ⟨_, _, _, q, q, q, q⟩ q ⟨_, _, _, q, q, q, q⟩ ?_ ?_
        ·refine l_buildDense (sz := 6) s 1621 q q q u33 q q q q q q q fun U3 a w L1 hK s => ?_
         have nW := NewA.lit hZ L1
         clear L1
         refine gk hE hZ hK fun hE hZ => ?_; clear hK
         refine n_1 28 s (by kernel_rfl) q ⟨_, _, _, q, q, q, q⟩ (l_buildDense (sz := 6) s 1628 q q q u33 q q q q q q q fun V3 a w M1 hK s => ?_)
         have nX := NewA.lit hZ M1
         clear M1
         refine gk hE hZ hK fun hE hZ => ?_; clear hK
         replace s := s.add 251 (rdF RDef (cellsOfL [.agg #[_, _, _, _, _, _]]) ([c0.Def])) (RdAll.cons (by exact (RDef.mk' (x := c0.Def) (by omega) (by omega) (s.ft 236 q) (s.ft 237 q) (s.ft 238 q))) (rN))
         replace s := s.add 252 (rdF RDef (cellsOfL [.agg #[_, _, _, _, _, _]]) ([d0.Def])) (RdAll.cons (by exact (RDef.mk' (x := d0.Def) (by omega) (by omega) (s.ft 248 q) (s.ft 249 q) (s.ft 250 q))) (rN))
         have hT := s
         replace hT := hT.fz (R := RDef) (kk := 1621) [1000, 1001, 1628] 253 q q (hT.ft 251 q) q
         replace hT := hT.fz (R := RDef) (kk := 1628) [1000, 1001] 254 q q (hT.ft 252 q) q
         refine nC 29 s q q func49 (c_r21_sameDefs n _ _ hT.lt [c0.Def] (some ⟨U3, 0, none⟩) (1) (hT.ft 253 q) [d0.Def] (some ⟨V3, 0, none⟩) (1) (hT.ft 254 q) _ k0) fun sW a w hK hp s => ?_
         refine gk hE hZ hK fun hE hZ => ?_; clear hK
         obtain rfl := hp
         refine S s<|nzw 30 q (y_not · q)<|nzw 31 q (pO · q q) fun a s => ?_
         refine n_end (by kernel_rfl) ?_; clear hR hZ hE
         apply pN
         exact ⟨(!(m0)), hg, (s.sb q q q)⟩
        ·refine l_buildDense (sz := 6) s 1628 q q q u33 q q q q q q q fun X3 a w O1 hK s => ?_
         have nY := NewA.lit hZ O1
         clear O1
         refine gk hE hZ hK fun hE hZ => ?_; clear hK
         refine n_1 21 s (by kernel_rfl) q ⟨_, _, _, q, q, q, q⟩ (l_buildDense (sz := 6) s 1621 q q q u33 q q q q q q q fun Y3 a w P1 hK s => ?_)
         have nZ := NewA.lit hZ P1
         clear P1
         refine gk hE hZ hK fun hE hZ => ?_; clear hK
         replace s := s.add 255 (rdF RDef (cellsOfL [.agg #[_, _, _, _, _, _]]) ([c0.Def])) (RdAll.cons (by exact (RDef.mk' (x := c0.Def) (by omega) (by omega) (s.ft 236 q) (s.ft 237 q) (s.ft 238 q))) (rN))
         replace s := s.add 256 (rdF RDef (cellsOfL [.agg #[_, _, _, _, _, _]]) ([d0.Def])) (RdAll.cons (by exact (RDef.mk' (x := d0.Def) (by omega) (by omega) (s.ft 248 q) (s.ft 249 q) (s.ft 250 q))) (rN))
         have hT := s
         replace hT := hT.fz (R := RDef) (kk := 1621) [1000, 1001, 1628] 257 q q (hT.ft 255 q) q
         replace hT := hT.fz (R := RDef) (kk := 1628) [1000, 1001] 258 q q (hT.ft 256 q) q
         refine nC 29 s q q func49 (c_r21_sameDefs n _ _ hT.lt [c0.Def] (some ⟨Y3, 0, none⟩) (1) (hT.ft 257 q) [d0.Def] (some ⟨X3, 0, none⟩) (1) (hT.ft 258 q) _ k0) fun sX a w hK hp s => ?_
         refine gk hE hZ hK fun hE hZ => ?_; clear hK
         obtain rfl := hp
         refine S s<|nzw 30 q (y_not · q)<|nzw 31 q (pO · q q) fun a s => ?_
         refine n_end (by kernel_rfl) ?_; clear hR hZ hE
         apply pN
         exact ⟨(!(m0)), hg, (s.sb q q q)⟩
      ·obtain ⟨T7, X8, mS, J6, H5⟩ := (SlR.again (s.ft 113 q) i0 q0)
       obtain ⟨eF, iW, eG, iX, eH, iY, eI, iZ, rfl, aG, qu, qv, aH, aI, aJ⟩ := REntryDecl.open J6
       replace s := s.ns 259 aG |>.ns 260 aH |>.ns 261 aI |>.ns 262 aJ
       refine l_quiet s q q (lD [_, _, _, _, _, _] 1 s T7 X8 H5 u62 q) fun a s => ?_; refine ⟨fun g _ h => h, ?_⟩
       refine n_2 20 28 s (by kernel_rfl) q ⟨_, _, _, q, q, q, q⟩ q ⟨_, _, _, q, q, q, q⟩ ?_ ?_
       ·obtain ⟨U7, Y8, mT, K6, I5⟩ := (SlR.again (s.ft 104 q) h0 o1)
        obtain ⟨eJ, ja, eK, jb, eM, jc, eN, jd, rfl, aK, qx, qy, aL, aM, aN⟩ := REntryDecl.open K6
        replace s := s.ns 263 aK |>.ns 264 aL |>.ns 265 aM |>.ns 266 aN
        refine l_quiet s q q (lD [_, _, _, _, _, _] 1 s U7 Y8 I5 u62 q) fun a s => ?_; refine ⟨fun g _ h => h, ?_⟩
        refine n_2 21 28 s (by kernel_rfl) q ⟨_, _, _, q, q, q, q⟩ q ⟨_, _, _, q, q, q, q⟩ ?_ ?_
        ·refine l_buildDense (sz := 6) s 1621 q q q u33 q q q q q q q fun Z3 a w Q1 hK s => ?_
         have oa := NewA.lit hZ Q1
         clear Q1
         refine gk hE hZ hK fun hE hZ => ?_; clear hK
         refine n_1 28 s (by kernel_rfl) q ⟨_, _, _, q, q, q, q⟩ (l_buildDense (sz := 6) s 1628 q q q u33 q q q q q q q fun a4 a w R1 hK s => ?_)
         have oc := NewA.lit hZ R1
         clear R1
         refine gk hE hZ hK fun hE hZ => ?_; clear hK
         replace s := s.add 267 (rdF RDef (cellsOfL [.agg #[_, _, _, _, _, _]]) ([c0.Def])) (RdAll.cons (by exact (RDef.mk' (x := c0.Def) (by omega) (by omega) (s.ft 264 q) (s.ft 265 q) (s.ft 266 q))) (rN))
         replace s := s.add 268 (rdF RDef (cellsOfL [.agg #[_, _, _, _, _, _]]) ([d0.Def])) (RdAll.cons (by exact (RDef.mk' (x := d0.Def) (by omega) (by omega) (s.ft 260 q) (s.ft 261 q) (s.ft 262 q))) (rN))
         have hT := s
         replace hT := hT.fz (R := RDef) (kk := 1621) [1000, 1001, 1628] 269 q q (hT.ft 267 q) q
         replace hT := hT.fz (R := RDef) (kk := 1628) [1000, 1001] 270 q q (hT.ft 268 q) q
         refine nC 29 s q q func49 (c_r21_sameDefs n _ _ hT.lt [c0.Def] (some ⟨Z3, 0, none⟩) (1) (hT.ft 269 q) [d0.Def] (some ⟨a4, 0, none⟩) (1) (hT.ft 270 q) _ k0) fun sY a w hK hp s => ?_
         refine gk hE hZ hK fun hE hZ => ?_; clear hK
         obtain rfl := hp
         refine S s<|nzw 30 q (y_not · q)<|nzw 31 q (pO · q q) fun a s => ?_
         refine n_end (by kernel_rfl) ?_; clear hR hZ hE
         apply pN
         exact ⟨(!(m0)), hg, (s.sb q q q)⟩
        ·refine l_buildDense (sz := 6) s 1628 q q q u33 q q q q q q q fun c4 a w S1 hK s => ?_
         have od := NewA.lit hZ S1
         clear S1
         refine gk hE hZ hK fun hE hZ => ?_; clear hK
         refine n_1 21 s (by kernel_rfl) q ⟨_, _, _, q, q, q, q⟩ (l_buildDense (sz := 6) s 1621 q q q u33 q q q q q q q fun d4 a w T1 hK s => ?_)
         have oe := NewA.lit hZ T1
         clear T1
         refine gk hE hZ hK fun hE hZ => ?_; clear hK
         replace s := s.add 271 (rdF RDef (cellsOfL [.agg #[_, _, _, _, _, _]]) ([c0.Def])) (RdAll.cons (by exact (RDef.mk' (x := c0.Def) (by omega) (by omega) (s.ft 264 q) (s.ft 265 q) (s.ft 266 q))) (rN))
         replace s := s.add 272 (rdF RDef (cellsOfL [.agg #[_, _, _, _, _, _]]) ([d0.Def])) (RdAll.cons (by exact (RDef.mk' (x := d0.Def) (by omega) (by omega) (s.ft 260 q) (s.ft 261 q) (s.ft 262 q))) (rN))
         have hT := s
         replace hT := hT.fz (R := RDef) (kk := 1621) [1000, 1001, 1628] 273 q q (hT.ft 271 q) q
         replace hT := hT.fz (R := RDef) (kk := 1628) [1000, 1001] 274 q q (hT.ft 272 q) q
         refine nC 29 s q q func49 (c_r21_sameDefs n _ _ hT.lt [c0.Def] (some ⟨d4, 0, none⟩) (1) (hT.ft 273 q) [d0.Def] (some ⟨c4, 0, none⟩) (1) (hT.ft 274 q) _ k0) fun sZ a w hK hp s => ?_
         refine gk hE hZ hK fun hE hZ => ?_; clear hK
         obtain rfl := hp
         refine S s<|nzw 30 q (y_not · q)<|nzw 31 q (pO · q q) fun a s => ?_
         refine n_end (by kernel_rfl) ?_; clear hR hZ hE
         apply pN
         exact ⟨(!(m0)), hg, (s.sb q q q)⟩
       ·refine l_buildDense (sz := 6) s 1628 q q q u33 q q q q q q q fun e4 a w U1 hK s => ?_
        have og := NewA.lit hZ U1
        clear U1
        refine gk hE hZ hK fun hE hZ => ?_; clear hK
        obtain ⟨V7, Z8, mU, L6, J5⟩ := (SlR.again (s.ft 104 q) h0 o1)
        obtain ⟨eO, je, eP, jf, eQ, jg, eR, jh, rfl, aO, qz, qA, aP, aQ, aR⟩ := REntryDecl.open L6
        refine S s<|nsw 275 aO<|nsw 276 aP<|nsw 277 aQ<|nsw 278 aR<|nzw 20 q (lD [_, _, _, _, _, _] 1 · V7 Z8 J5 u62 q) fun a s => ?_
        refine n_1 21 s (by kernel_rfl) q ⟨_, _, _, q, q, q, q⟩ (l_buildDense (sz := 6) s 1621 q q q u33 q q q q q q q fun g4 a w V1 hK s => ?_)
        have oh := NewA.lit hZ V1
        clear V1
        refine gk hE hZ hK fun hE hZ => ?_; clear hK
        replace s := s.add 279 (rdF RDef (cellsOfL [.agg #[_, _, _, _, _, _]]) ([c0.Def])) (RdAll.cons (by exact (RDef.mk' (x := c0.Def) (by omega) (by omega) (s.ft 276 q) (s.ft 277 q) (s.ft 278 q))) (rN))
        replace s := s.add 280 (rdF RDef (cellsOfL [.agg #[_, _, _, _, _, _]]) ([d0.Def])) (RdAll.cons (by exact (RDef.mk' (x := d0.Def) (by omega) (by omega) (s.ft 260 q) (s.ft 261 q) (s.ft 262 q))) (rN))
        have hT := s
        replace hT := hT.fz (R := RDef) (kk := 1621) [1000, 1001, 1628] 281 q q (hT.ft 279 q) q
        replace hT := hT.fz (R := RDef) (kk := 1628) [1000, 1001] 282 q q (hT.ft 280 q) q
        refine nC 29 s q q func49 (c_r21_sameDefs n _ _ hT.lt [c0.Def] (some ⟨g4, 0, none⟩) (1) (hT.ft 281 q) [d0.Def] (some ⟨e4, 0, none⟩) (1) (hT.ft 282 q) _ k0) fun ta a w hK hp s => ?_
        refine gk hE hZ hK fun hE hZ => ?_; clear hK
        obtain rfl := hp
        refine S s<|nzw 30 q (y_not · q)<|nzw 31 q (pO · q q) fun a s => ?_
        refine n_end (by kernel_rfl) ?_; clear hR hZ hE
        apply pN
        exact ⟨(!(m0)), hg, (s.sb q q q)⟩
     ·obtain ⟨X7, a9, mV, M6, K5⟩ := (SlR.again (s.ft 113 q) i0 q0)
      obtain ⟨eS, ji, eT, jj, eU, jk, eV, jl, rfl, aS, qB, qC, aT, aU, aV⟩ := REntryDecl.open M6
      replace s := s.ns 283 aS |>.ns 284 aT |>.ns 285 aU |>.ns 286 aV
      refine l_quiet s q q (lD [_, _, _, _, _, _] 1 s X7 a9 K5 u62 q) fun a s => ?_; refine ⟨fun g _ h => h, ?_⟩
      refine n_2 16 28 s (by kernel_rfl) q ⟨_, _, _, q, q, q, q⟩ q ⟨_, _, _, q, q, q, q⟩ ?_ ?_
      ·refine l_quiet s q q (lB 1000 s u34 q) fun a s => ?_; refine ⟨fun g _ h => h, ?_⟩
       obtain ⟨ss, B1, pK⟩ := SlR.elemX (s.ft 104 q) h0
       refine S s<|new 18 hE q (fun w' s => y_elem (sz := 7) (i := n0) s q q u34 q B1 q (lt_of_get h0))<|new 19 hE q (fun w' s => y_ptrField (o' := 1) s q u89 q q q) fun a s => ?_
       refine n_2 20 28 s (by kernel_rfl) q ⟨_, _, _, q, q, q, q⟩ q ⟨_, _, _, q, q, q, q⟩ ?_ ?_
       ·obtain ⟨Y7, b9, mW, O6, L5⟩ := (SlR.again (s.ft 104 q) h0 B1)
        obtain ⟨eW, jm, eX, jo, eY, jp, eZ, jq, rfl, aW, qD, qE, aX, aY, aZ⟩ := REntryDecl.open O6
        replace s := s.ns 287 aW |>.ns 288 aX |>.ns 289 aY |>.ns 290 aZ
        refine l_quiet s q q (lD [_, _, _, _, _, _] 1 s Y7 b9 L5 u62 q) fun a s => ?_; refine ⟨fun g _ h => h, ?_⟩
        refine n_2 21 28 s (by kernel_rfl) q ⟨_, _, _, q, q, q, q⟩ q ⟨_, _, _, q, q, q, q⟩ ?_ ?_
        ·refine l_buildDense (sz := 6) s 1621 q q q u33 q q q q q q q fun h4 a w X1 hK s => ?_
         have oi := NewA.lit hZ X1
         clear X1
         refine gk hE hZ hK fun hE hZ => ?_; clear hK
         refine n_1 28 s (by kernel_rfl) q ⟨_, _, _, q, q, q, q⟩ (l_buildDense (sz := 6) s 1628 q q q u33 q q q q q q q fun i4 a w Y1 hK s => ?_)
         have oj := NewA.lit hZ Y1
         clear Y1
         refine gk hE hZ hK fun hE hZ => ?_; clear hK
         replace s := s.add 291 (rdF RDef (cellsOfL [.agg #[_, _, _, _, _, _]]) ([c0.Def])) (RdAll.cons (by exact (RDef.mk' (x := c0.Def) (by omega) (by omega) (s.ft 288 q) (s.ft 289 q) (s.ft 290 q))) (rN))
         replace s := s.add 292 (rdF RDef (cellsOfL [.agg #[_, _, _, _, _, _]]) ([d0.Def])) (RdAll.cons (by exact (RDef.mk' (x := d0.Def) (by omega) (by omega) (s.ft 284 q) (s.ft 285 q) (s.ft 286 q))) (rN))
         have hT := s
         replace hT := hT.fz (R := RDef) (kk := 1621) [1000, 1001, 1628] 293 q q (hT.ft 291 q) q
         replace hT := hT.fz (R := RDef) (kk := 1628) [1000, 1001] 294 q q (hT.ft 292 q) q
         refine nC 29 s q q func49 (c_r21_sameDefs n _ _ hT.lt [c0.Def] (some ⟨h4, 0, none⟩) (1) (hT.ft 293 q) [d0.Def] (some ⟨i4, 0, none⟩) (1) (hT.ft 294 q) _ k0) fun tb a w hK hp s => ?_
         refine gk hE hZ hK fun hE hZ => ?_; clear hK
         obtain rfl := hp
         refine S s<|nzw 30 q (y_not · q)<|nzw 31 q (pO · q q) fun a s => ?_
         refine n_end (by kernel_rfl) ?_; clear hR hZ hE
         apply pN
         exact ⟨(!(m0)), hg, (s.sb q q q)⟩
        ·refine l_buildDense (sz := 6) s 1628 q q q u33 q q q q q q q fun j4 a w Z1 hK s => ?_
         have ok := NewA.lit hZ Z1
         clear Z1
         refine gk hE hZ hK fun hE hZ => ?_; clear hK
         refine n_1 21 s (by kernel_rfl) q ⟨_, _, _, q, q, q, q⟩ (l_buildDense (sz := 6) s 1621 q q q u33 q q q q q q q fun k4 a w a2 hK s => ?_)
         have ol := NewA.lit hZ a2
         clear a2
         refine gk hE hZ hK fun hE hZ => ?_; clear hK
         replace s := s.add 295 (rdF RDef (cellsOfL [.agg #[_, _, _, _, _, _]]) ([c0.Def])) (RdAll.cons (by exact (RDef.mk' (x := c0.Def) (by omega) (by omega) (s.ft 288 q) (s.ft 289 q) (s.ft 290 q))) (rN))
         replace s := s.add 296 (rdF RDef (cellsOfL [.agg #[_, _, _, _, _, _]]) ([d0.Def])) (RdAll.cons (by exact (RDef.mk' (x := d0.Def) (by omega) (by omega) (s.ft 284 q) (s.ft 285 q) (s.ft 286 q))) (rN))
         have hT := s
         replace hT := hT.fz (R := RDef) (kk := 1621) [1000, 1001, 1628] 297 q q (hT.ft 295 q) q
         replace hT := hT.fz (R := RDef) (kk := 1628) [1000, 1001] 298 q q (hT.ft 296 q) q
         refine nC 29 s q q func49 (c_r21_sameDefs n _ _ hT.lt [c0.Def] (some ⟨k4, 0, none⟩) (1) (hT.ft 297 q) [d0.Def] (some ⟨j4, 0, none⟩) (1) (hT.ft 298 q) _ k0) fun tc a w hK hp s => ?_
         refine gk hE hZ hK fun hE hZ => ?_; clear hK
         obtain rfl := hp
         refine S s<|nzw 30 q (y_not · q)<|nzw 31 q (pO · q q) fun a s => ?_
         refine n_end (by kernel_rfl) ?_; clear hR hZ hE
         apply pN
         exact ⟨(!(m0)), hg, (s.sb q q q)⟩
       ·refine l_buildDense (sz := 6) s 1628 q q q u33 q q q q q q q fun l4 a w b2 hK s => ?_
        have om := NewA.lit hZ b2
        clear b2
        refine gk hE hZ hK fun hE hZ => ?_; clear hK
        obtain ⟨Z7, c9, mX, P6, M5⟩ := (SlR.again (s.ft 104 q) h0 B1)
        obtain ⟨fa, jr, fb, js, fc, jt, fd, ju, rfl, ba, qF, qG, bb, bc, bd⟩ := REntryDecl.open P6
        refine S s<|nsw 299 ba<|nsw 300 bb<|nsw 301 bc<|nsw 302 bd<|nzw 20 q (lD [_, _, _, _, _, _] 1 · Z7 c9 M5 u62 q) fun a s => ?_
        refine n_1 21 s (by kernel_rfl) q ⟨_, _, _, q, q, q, q⟩ (l_buildDense (sz := 6) s 1621 q q q u33 q q q q q q q fun m4 a w c2 hK s => ?_)
        have oo := NewA.lit hZ c2
        clear c2
        refine gk hE hZ hK fun hE hZ => ?_; clear hK
        replace s := s.add 303 (rdF RDef (cellsOfL [.agg #[_, _, _, _, _, _]]) ([c0.Def])) (RdAll.cons (by exact (RDef.mk' (x := c0.Def) (by omega) (by omega) (s.ft 300 q) (s.ft 301 q) (s.ft 302 q))) (rN))
        replace s := s.add 304 (rdF RDef (cellsOfL [.agg #[_, _, _, _, _, _]]) ([d0.Def])) (RdAll.cons (by exact (RDef.mk' (x := d0.Def) (by omega) (by omega) (s.ft 284 q) (s.ft 285 q) (s.ft 286 q))) (rN))
        have hT := s
        replace hT := hT.fz (R := RDef) (kk := 1621) [1000, 1001, 1628] 305 q q (hT.ft 303 q) q
        replace hT := hT.fz (R := RDef) (kk := 1628) [1000, 1001] 306 q q (hT.ft 304 q) q
        refine nC 29 s q q func49 (c_r21_sameDefs n _ _ hT.lt [c0.Def] (some ⟨m4, 0, none⟩) (1) (hT.ft 305 q) [d0.Def] (some ⟨l4, 0, none⟩) (1) (hT.ft 306 q) _ k0) fun td a w hK hp s => ?_
        refine gk hE hZ hK fun hE hZ => ?_; clear hK
        obtain rfl := hp
        refine S s<|nzw 30 q (y_not · q)<|nzw 31 q (pO · q q) fun a s => ?_
        refine n_end (by kernel_rfl) ?_; clear hR hZ hE
        apply pN
        exact ⟨(!(m0)), hg, (s.sb q q q)⟩
      ·refine l_buildDense (sz := 6) s 1628 q q q u33 q q q q q q q fun n4 a w d2 hK s => ?_
       have op := NewA.lit hZ d2
       clear d2
       refine gk hE hZ hK fun hE hZ => ?_; clear hK
       refine S s<|nzw 16 q (lB 1000 · u34 q) fun a s => ?_
       obtain ⟨st, w3, pL⟩ := SlR.elemX (s.ft 104 q) h0
       refine S s<|nzw 18 q (eL 7 n0 · u34 w3 (lt_of_get h0) q)<|nzw 19 q (pF 1 · u89 q) fun a s => ?_
       obtain ⟨a8, d9, mY, Q6, O5⟩ := (SlR.again (s.ft 104 q) h0 w3)
       obtain ⟨fe, jv, ff, jw, fg, jx, fh, jy, rfl, be, qH, qI, bf, bg, bh⟩ := REntryDecl.open Q6
       refine S s<|nsw 307 be<|nsw 308 bf<|nsw 309 bg<|nsw 310 bh<|nzw 20 q (lD [_, _, _, _, _, _] 1 · a8 d9 O5 u62 q) fun a s => ?_
       refine n_1 21 s (by kernel_rfl) q ⟨_, _, _, q, q, q, q⟩ (l_buildDense (sz := 6) s 1621 q q q u33 q q q q q q q fun o4 a w e2 hK s => ?_)
       have oq := NewA.lit hZ e2
       clear e2
       refine gk hE hZ hK fun hE hZ => ?_; clear hK
       replace s := s.add 311 (rdF RDef (cellsOfL [.agg #[_, _, _, _, _, _]]) ([c0.Def])) (RdAll.cons (by exact (RDef.mk' (x := c0.Def) (by omega) (by omega) (s.ft 308 q) (s.ft 309 q) (s.ft 310 q))) (rN))
       replace s := s.add 312 (rdF RDef (cellsOfL [.agg #[_, _, _, _, _, _]]) ([d0.Def])) (RdAll.cons (by exact (RDef.mk' (x := d0.Def) (by omega) (by omega) (s.ft 284 q) (s.ft 285 q) (s.ft 286 q))) (rN))
       have hT := s
       replace hT := hT.fz (R := RDef) (kk := 1621) [1000, 1001, 1628] 313 q q (hT.ft 311 q) q
       replace hT := hT.fz (R := RDef) (kk := 1628) [1000, 1001] 314 q q (hT.ft 312 q) q
       refine nC 29 s q q func49 (c_r21_sameDefs n _ _ hT.lt [c0.Def] (some ⟨o4, 0, none⟩) (1) (hT.ft 313 q) [d0.Def] (some ⟨n4, 0, none⟩) (1) (hT.ft 314 q) _ k0) fun te a w hK hp s => ?_
       refine gk hE hZ hK fun hE hZ => ?_; clear hK
       obtain rfl := hp
       refine S s<|nzw 30 q (y_not · q)<|nzw 31 q (pO · q q) fun a s => ?_
       refine n_end (by kernel_rfl) ?_; clear hR hZ hE
       apply pN
       exact ⟨(!(m0)), hg, (s.sb q q q)⟩
   clear s a; rintro a w ⟨G1, hg, s⟩
   subst L7
   refine c_cond s q (fun u1 => ?_) (fun u1 => ?_)
   ·replace hg := br_t hg u1
    refine S s<|vw<|aw q<|nw fun a s => ?_
    apply wp_ret
    refine p_inR ?_
    refine p_thenR ?_
    refine p_thenR ?_
    refine p_inR ?_
    refine p_thenR ?_
    obtain rfl := si hg
    exact fin1 (fn := Tryz.f50) s q (r_tmp s q) q
   replace hg := br_n hg u1
   apply wp_skip
   refine p_inN ?_
   refine S s<|pw<|lw<|mw q<|yw q (y_addN (i := n0) (j := 1) · q q (in64.2 (by omega)))<|aw q<|nw fun a s => ?_
   exact ⟨m1, Nat.lt_succ_self _, ⟨(n0 + 1), hg, (s.sb q q q)⟩⟩
  replace hg := br_f hg t1
  apply wp_exit
  refine p_then ?_
  refine p_then ?_
  refine p_in ?_
  apply pN
  exact ⟨hg, (s.sb q q q)⟩
 clear s a; rintro a w ⟨hg, s⟩
 subst K7
 refine S s<|sw<|vw<|aw q<|nw fun a s => ?_
 obtain ⟨R3, hg, M7⟩ := jn_some hg
 refine c_post (fun a w => R3 = some r ∧ St (cx f50 M w0) [(2, vP b3 0), (3, vP b4 0)] [(1000, Ob.box b3 B 38), (1001, Ob.box b4 C 38)] F a w) ?_ ?_
 ·apply wp_block
  refine c_loop (σ := Nat) (fun m2 a w => ∃ (o0 : Nat), r21_sameLists_L1 n t_ t_' R3 m2 o0 = some r ∧ St (cx f50 M w0) [(2, vP b3 0), (3, vP b4 0), (6, vI (((o0 : Nat) : Int)))] [(1000, Ob.box b3 B 38), (1001, Ob.box b4 C 38)] F a w) (fun m2 => m2) n ⟨(0), hg, (s.sb q q q)⟩ ?_
  clear s a; rintro m2 a w ⟨o0, hg, s⟩
  rcases m2 with _ | m2
  ·rw [r21_sameLists_L1] at hg; cases hg
  rw [r21_sameLists_L1] at hg
  refine S s<|sw<|vw<|mw q<|yw q (bF 5 · u38 q)<|yw q (lB 1000 · u35 q)<|yw q (lS · q u35)<|yw q (y_lssN (i := o0) (j := ((t_.LexRules).length)) · q q)<|nw fun a s => c_dec s q (fun v1 => ?_) (fun v1 => ?_)
  ·replace hg := br_t hg v1
   have pG := SlR.mx (s.ft 105 q)
   refine S s<|kw<|pw<|sw<|bw<|sw fun a s => ?_
   obtain ⟨eo, hg, O7⟩ := jn_some hg
   refine c_post (fun a w => ∃ (H1 : Bool), eo H1 = some r ∧ St (cx f50 M w0) [(2, vP b3 0), (3, vP b4 0), (6, vI (((o0 : Nat) : Int))), (110, .bool (H1))] [(1000, Ob.box b3 B 38), (1001, Ob.box b4 C 38)] F a w) ?_ ?_
   ·obtain ⟨a0, e0, hg⟩ := bind_some hg
    obtain ⟨b0, g0, hg⟩ := bind_some hg
    obtain ⟨ep, L3, hg⟩ := bind_some hg
    rcases Bool.eq_false_or_eq_true (!(ep)) with u0 | u0
    ·replace hg := br_t hg u0
     refine d_steps s [] q ?_; clear s; intro wr hZ s; have hR := s.wd; have hE := Ext.init hR 0
     refine S s<|nqw 0 0 hR q (bF 5 · u38 q)<|nqw 1 1000 hR q (lB 1000 · u35 q)<|nqw 2 0 hR q (mo · q) fun a s => ?_
     obtain ⟨su, x3, pM⟩ := SlR.elemX (s.ft 105 q) e0
     refine S s<|nqw 3 0 hR q (eL 8 o0 · u35 x3 (lt_of_get e0) q)<|nqw 4 0 hR q (pF 0 · u94 q) fun a s => ?_
     obtain ⟨b8, e9, mZ, R6, P5⟩ := (SlR.again (s.ft 105 q) e0 x3)
     obtain ⟨fi, jz, fj, jA, fk, jB, fl, jC, rfl, bi, qJ, qK, bj, bk, bl⟩ := RLexDecl.open R6
     refine S s<|nsw 323 bi<|nsw 324 bj<|nsw 325 bk<|nsw 326 bl<|nqw 5 0 hR q (lD [_, _] 0 · b8 e9 P5 u92 q)<|nqw 6 0 hR q (bF 5 · u38 q)<|nqw 7 1001 hR q (lB 1001 · u35 q)<|nqw 8 0 hR q (mo · q) fun a s => ?_
     obtain ⟨sv, y3, pP⟩ := SlR.elemX (s.ft 114 q) g0
     refine S s<|nqw 9 0 hR q (eL 8 o0 · u35 y3 (lt_of_get g0) q)<|nqw 10 0 hR q (pF 0 · u94 q) fun a s => ?_
     obtain ⟨c8, g9, na, S6, Q5⟩ := (SlR.again (s.ft 114 q) g0 y3)
     obtain ⟨fm, jD, fo, jE, fp, jF, fq, jG, rfl, bm, qL, qM, bn, bo, bp⟩ := RLexDecl.open S6
     refine S s<|nsw 327 bm<|nsw 328 bn<|nsw 329 bo<|nsw 330 bp<|nqw 11 0 hR q (lD [_, _] 0 · c8 g9 Q5 u92 q) fun a s => ?_
     refine nC 12 s q q func72 (c_r21_SameAffix n _ _ s.lt _ _ _ (s.ft 323 q) _ _ _ (s.ft 327 q) _ L3) fun tf a w hK hp s => ?_
     refine gk hE hZ hK fun hE hZ => ?_; clear hK
     obtain rfl := hp
     refine S s<|nzw 13 q (fun s => yl_b (y_not s q) u0)<|nzw 14 q (mo · q)<|nfw 15 hE q<|nfw 16 hE q<|nfw 17 hE q<|nfw 18 hE q<|nfw 19 hE q<|nfw 20 hE q<|nfw 21 hE q<|nfw 22 hE q<|nfw 23 hE q<|npw 24 q<|npw 25 q<|npw 26 q<|npw 27 q<|npw 28 q<|npw 29 q<|npw 30 q<|nzw 31 q (pT · q q) fun a s => ?_
     refine n_end (by kernel_rfl) ?_; clear hR hZ hE
     apply pN
     exact ⟨(true), hg, (s.sb q q q)⟩
    replace hg := br_n hg u0
    obtain ⟨l0, j0, hg⟩ := bind_some hg
    refine d_steps s [] q ?_; clear s; intro wr hZ s; have hR := s.wd; have hE := Ext.init hR 0
    refine S s<|nqw 0 0 hR q (bF 5 · u38 q)<|nqw 1 1000 hR q (lB 1000 · u35 q)<|nqw 2 0 hR q (mo · q) fun a s => ?_
    obtain ⟨sx, z3, pQ⟩ := SlR.elemX (s.ft 105 q) e0
    refine S s<|nqw 3 0 hR q (eL 8 o0 · u35 z3 (lt_of_get e0) q)<|nqw 4 0 hR q (pF 0 · u94 q) fun a s => ?_
    obtain ⟨d8, h9, nb, T6, R5⟩ := (SlR.again (s.ft 105 q) e0 z3)
    obtain ⟨fr, jH, fs, jI, fu, jJ, fv, jK, rfl, bq, qN, qO, br, bt, bu⟩ := RLexDecl.open T6
    refine S s<|nsw 343 bq<|nsw 344 br<|nsw 345 bt<|nsw 346 bu<|nqw 5 0 hR q (lD [_, _] 0 · d8 h9 R5 u92 q)<|nqw 6 0 hR q (bF 5 · u38 q)<|nqw 7 1001 hR q (lB 1001 · u35 q)<|nqw 8 0 hR q (mo · q) fun a s => ?_
    obtain ⟨sy, B3, pR⟩ := SlR.elemX (s.ft 114 q) g0
    refine S s<|nqw 9 0 hR q (eL 8 o0 · u35 B3 (lt_of_get g0) q)<|nqw 10 0 hR q (pF 0 · u94 q) fun a s => ?_
    obtain ⟨e8, i9, nc, U6, S5⟩ := (SlR.again (s.ft 114 q) g0 B3)
    obtain ⟨fx, jL, fy, jM, fA, jN, fB, jO, rfl, bv, qP, qQ, bx, bz, bA⟩ := RLexDecl.open U6
    refine S s<|nsw 347 bv<|nsw 348 bx<|nsw 349 bz<|nsw 350 bA<|nqw 11 0 hR q (lD [_, _] 0 · e8 i9 S5 u92 q) fun a s => ?_
    refine nC 12 s q q func72 (c_r21_SameAffix n _ _ s.lt _ _ _ (s.ft 343 q) _ _ _ (s.ft 347 q) _ L3) fun tg a w hK hp s => ?_
    refine gk hE hZ hK fun hE hZ => ?_; clear hK
    obtain rfl := hp
    refine S s<|nzw 13 q (fun s => yl_b (y_not s q) u0)<|nzw 14 q (mo · q)<|new 15 hE q (fun w' s => y_boxField (o' := 5) s q u38 q q q)<|new 17 hE q (fun w' s => y_move s q)<|new 22 hE q (fun w' s => y_boxField (o' := 5) s q u38 q q q)<|new 24 hE q (fun w' s => y_move s q) fun a s => ?_
    refine n_2 16 23 s (by kernel_rfl) q ⟨_, _, _, q, q, q, q⟩ q ⟨_, _, _, q, q, q, q⟩ ?_ ?_
    ·refine l_quiet s q q (lB 1000 s u35 q) fun a s => ?_; refine ⟨fun g _ h => h, ?_⟩
     obtain ⟨sA, r0, pS⟩ := SlR.elemX (s.ft 105 q) e0
     refine S s<|new 18 hE q (fun w' s => y_elem (sz := 8) (i := o0) s q q u35 q r0 q (lt_of_get e0))<|new 19 hE q (fun w' s => y_ptrField (o' := 2) s q u94 q q q) fun a s => ?_
     refine n_2 20 23 s (by kernel_rfl) q ⟨_, _, _, q, q, q, q⟩ q ⟨_, _, _, q, q, q, q⟩ ?_ ?_
     ·obtain ⟨g8, j9, nd, V6, T5⟩ := (SlR.again (s.ft 105 q) e0 r0)
      obtain ⟨fC, jP, fD, jQ, fE, jR, fF, jS, rfl, bB, qR, qS, bC, bD, bE⟩ := RLexDecl.open V6
      replace s := s.ns 351 bB |>.ns 352 bC |>.ns 353 bD |>.ns 354 bE
      refine l_quiet s q q (lD [_, _, _, _, _, _] 2 s g8 j9 T5 u62 q) fun a s => ?_; refine ⟨fun g _ h => h, ?_⟩
      refine n_2 21 23 s (by kernel_rfl) q ⟨_, _, _, q, q, q, q⟩ q ⟨_, _, _, q, q, q, q⟩ ?_ ?_
      ·refine l_buildDense (sz := 6) s 2121 q q q u33 q q q q q q q fun p4 a w g2 hK s => ?_
       have os := NewA.lit hZ g2
       clear g2
       refine gk hE hZ hK fun hE hZ => ?_; clear hK
       refine S s<|nzw 23 q (lB 1001 · u35 q) fun a s => ?_
       obtain ⟨sB, C3, pU⟩ := SlR.elemX (s.ft 114 q) g0
       refine S s<|nzw 25 q (eL 8 o0 · u35 C3 (lt_of_get g0) q)<|nzw 26 q (pF 2 · u94 q) fun a s => ?_
       obtain ⟨h8, k9, ne, X6, U5⟩ := (SlR.again (s.ft 114 q) g0 C3)
       obtain ⟨fG, jT, fH, jU, fI, jV, fJ, jW, rfl, bG, qT, qU, bH, bI, bJ⟩ := RLexDecl.open X6
       refine S s<|nsw 355 bG<|nsw 356 bH<|nsw 357 bI<|nsw 358 bJ<|nzw 27 q (lD [_, _, _, _, _, _] 2 · h8 k9 U5 u62 q) fun a s => ?_
       refine n_1 28 s (by kernel_rfl) q ⟨_, _, _, q, q, q, q⟩ (l_buildDense (sz := 6) s 2128 q q q u33 q q q q q q q fun q4 a w h2 hK s => ?_)
       have ot := NewA.lit hZ h2
       clear h2
       refine gk hE hZ hK fun hE hZ => ?_; clear hK
       replace s := s.add 359 (rdF RDef (cellsOfL [.agg #[_, _, _, _, _, _]]) ([a0.Def])) (RdAll.cons (by exact (RDef.mk' (x := a0.Def) (by omega) (by omega) (s.ft 352 q) (s.ft 353 q) (s.ft 354 q))) (rN))
       replace s := s.add 360 (rdF RDef (cellsOfL [.agg #[_, _, _, _, _, _]]) ([b0.Def])) (RdAll.cons (by exact (RDef.mk' (x := b0.Def) (by omega) (by omega) (s.ft 356 q) (s.ft 357 q) (s.ft 358 q))) (rN))
       have hT := s
       replace hT := hT.fz (R := RDef) (kk := 2121) [1000, 1001, 2128] 361 q q (hT.ft 359 q) q
       replace hT := hT.fz (R := RDef) (kk := 2128) [1000, 1001] 362 q q (hT.ft 360 q) q
       refine nC 29 s q q func49 (c_r21_sameDefs n _ _ hT.lt [a0.Def] (some ⟨p4, 0, none⟩) (1) (hT.ft 361 q) [b0.Def] (some ⟨q4, 0, none⟩) (1) (hT.ft 362 q) _ j0) fun th a w hK hp s => ?_
       refine gk hE hZ hK fun hE hZ => ?_; clear hK
       obtain rfl := hp
       refine S s<|nzw 30 q (y_not · q)<|nzw 31 q (pO · q q) fun a s => ?_
       refine n_end (by kernel_rfl) ?_; clear hR hZ hE
       apply pN
       exact ⟨(!(l0)), hg, (s.sb q q q)⟩
      ·refine l_quiet s q q (lB 1001 s u35 q) fun a s => ?_; refine ⟨fun g _ h => h, ?_⟩
       obtain ⟨sC, C1, pV⟩ := SlR.elemX (s.ft 114 q) g0
       refine S s<|new 25 hE q (fun w' s => y_elem (sz := 8) (i := o0) s q q u35 q C1 q (lt_of_get g0))<|new 26 hE q (fun w' s => y_ptrField (o' := 2) s q u94 q q q) fun a s => ?_
       refine n_2 21 27 s (by kernel_rfl) q ⟨_, _, _, q, q, q, q⟩ q ⟨_, _, _, q, q, q, q⟩ ?_ ?_
       ·refine l_buildDense (sz := 6) s 2121 q q q u33 q q q q q q q fun r4 a w i2 hK s => ?_
        have ou := NewA.lit hZ i2
        clear i2
        refine gk hE hZ hK fun hE hZ => ?_; clear hK
        obtain ⟨i8, l9, nf, Y6, V5⟩ := (SlR.again (s.ft 114 q) g0 C1)
        obtain ⟨fK, jX, fL, jY, fM, jZ, fN, ka, rfl, bK, qV, qW, bL, bM, bN⟩ := RLexDecl.open Y6
        refine S s<|nsw 363 bK<|nsw 364 bL<|nsw 365 bM<|nsw 366 bN<|nzw 27 q (lD [_, _, _, _, _, _] 2 · i8 l9 V5 u62 q) fun a s => ?_
        refine n_1 28 s (by kernel_rfl) q ⟨_, _, _, q, q, q, q⟩ (l_buildDense (sz := 6) s 2128 q q q u33 q q q q q q q fun s4 a w j2 hK s => ?_)
        have ov := NewA.lit hZ j2
        clear j2
        refine gk hE hZ hK fun hE hZ => ?_; clear hK
        replace s := s.add 367 (rdF RDef (cellsOfL [.agg #[_, _, _, _, _, _]]) ([a0.Def])) (RdAll.cons (by exact (RDef.mk' (x := a0.Def) (by omega) (by omega) (s.ft 352 q) (s.ft 353 q) (s.ft 354 q))) (rN))
        replace s := s.add 368 (rdF RDef (cellsOfL [.agg #[_, _, _, _, _, _]]) ([b0.Def])) (RdAll.cons (by exact (RDef.mk' (x := b0.Def) (by omega) (by omega) (s.ft 364 q) (s.ft 365 q) (s.ft 366 q))) (rN))
        have hT := s
        replace hT := hT.fz (R := RDef) (kk := 2121) [1000, 1001, 2128] 369 q q (hT.ft 367 q) q
        replace hT := hT.fz (R := RDef) (kk := 2128) [1000, 1001] 370 q q (hT.ft 368 q) q
        refine nC 29 s q q func49 (c_r21_sameDefs n _ _ hT.lt [a0.Def] (some ⟨r4, 0, none⟩) (1) (hT.ft 369 q) [b0.Def] (some ⟨s4, 0, none⟩) (1) (hT.ft 370 q) _ j0) fun ti a w hK hp s => ?_
        refine gk hE hZ hK fun hE hZ => ?_; clear hK
        obtain rfl := hp
        refine S s<|nzw 30 q (y_not · q)<|nzw 31 q (pO · q q) fun a s => ?_
        refine n_end (by kernel_rfl) ?_; clear hR hZ hE
        apply pN
        exact ⟨(!(l0)), hg, (s.sb q q q)⟩
       ·obtain ⟨j8, m9, ng, Z6, X5⟩ := (SlR.again (s.ft 114 q) g0 C1)
        obtain ⟨fO, kb, fP, kc, fQ, kd, fR, ke, rfl, bO, qX, qY, bP, bQ, bR⟩ := RLexDecl.open Z6
        replace s := s.ns 371 bO |>.ns 372 bP |>.ns 373 bQ |>.ns 374 bR
        refine l_quiet s q q (lD [_, _, _, _, _, _] 2 s j8 m9 X5 u62 q) fun a s => ?_; refine ⟨fun g _ h => h, ?_⟩
        refine n_2 21 28 s (by kernel_rfl) q ⟨_, _, _, q, q, q, q⟩ q ⟨_, _, _, q, q, q, q⟩ ?_ ?_
        ·refine l_buildDense (sz := 6) s 2121 q q q u33 q q q q q q q fun t4 a w k2 hK s => ?_
         have ox := NewA.lit hZ k2
         clear k2
         refine gk hE hZ hK fun hE hZ => ?_; clear hK
         refine n_1 28 s (by kernel_rfl) q ⟨_, _, _, q, q, q, q⟩ (l_buildDense (sz := 6) s 2128 q q q u33 q q q q q q q fun v4 a w l2 hK s => ?_)
         have oy := NewA.lit hZ l2
         clear l2
         refine gk hE hZ hK fun hE hZ => ?_; clear hK
         replace s := s.add 375 (rdF RDef (cellsOfL [.agg #[_, _, _, _, _, _]]) ([a0.Def])) (RdAll.cons (by exact (RDef.mk' (x := a0.Def) (by omega) (by omega) (s.ft 352 q) (s.ft 353 q) (s.ft 354 q))) (rN))
         replace s := s.add 376 (rdF RDef (cellsOfL [.agg #[_, _, _, _, _, _]]) ([b0.Def])) (RdAll.cons (by exact (RDef.mk' (x := b0.Def) (by omega) (by omega) (s.ft 372 q) (s.ft 373 q) (s.ft 374 q))) (rN))
         have hT := s
         replace hT := hT.fz (R := RDef) (kk := 2121) [1000, 1001, 2128] 377 q q (hT.ft 375 q) q
         replace hT := hT.fz (R := RDef) (kk := 2128) [1000, 1001] 378 q q (hT.ft 376 q) q
         refine nC 29 s q q func49 (c_r21_sameDefs n _ _ hT.lt [a0.Def] (some ⟨t4, 0, none⟩) (1) (hT.ft 377 q) [b0.Def] (some ⟨v4, 0, none⟩) (1) (hT.ft 378 q) _ j0) fun tj a w hK hp s => ?_
         refine gk hE hZ hK fun hE hZ => ?_; clear hK
         obtain rfl := hp
         refine S s<|nzw 30 q (y_not · q)<|nzw 31 q (pO · q q) fun a s => ?_
         refine n_end (by kernel_rfl) ?_; clear hR hZ hE
         apply pN
         exact ⟨(!(l0)), hg, (s.sb q q q)⟩
        ·refine l_buildDense (sz := 6) s 2128 q q q u33 q q q q q q q fun w4 a w n2 hK s => ?_
         have oz := NewA.lit hZ n2
         clear n2
         refine gk hE hZ hK fun hE hZ => ?_; clear hK
         refine n_1 21 s (by kernel_rfl) q ⟨_, _, _, q, q, q, q⟩ (l_buildDense (sz := 6) s 2121 q q q u33 q q q q q q q fun x4 a w o2 hK s => ?_)
         have oA := NewA.lit hZ o2
         clear o2
         refine gk hE hZ hK fun hE hZ => ?_; clear hK
         replace s := s.add 379 (rdF RDef (cellsOfL [.agg #[_, _, _, _, _, _]]) ([a0.Def])) (RdAll.cons (by exact (RDef.mk' (x := a0.Def) (by omega) (by omega) (s.ft 352 q) (s.ft 353 q) (s.ft 354 q))) (rN))
         replace s := s.add 380 (rdF RDef (cellsOfL [.agg #[_, _, _, _, _, _]]) ([b0.Def])) (RdAll.cons (by exact (RDef.mk' (x := b0.Def) (by omega) (by omega) (s.ft 372 q) (s.ft 373 q) (s.ft 374 q))) (rN))
         have hT := s
         replace hT := hT.fz (R := RDef) (kk := 2121) [1000, 1001, 2128] 381 q q (hT.ft 379 q) q
         replace hT := hT.fz (R := RDef) (kk := 2128) [1000, 1001] 382 q q (hT.ft 380 q) q
         refine nC 29 s q q func49 (c_r21_sameDefs n _ _ hT.lt [a0.Def] (some ⟨x4, 0, none⟩) (1) (hT.ft 381 q) [b0.Def] (some ⟨w4, 0, none⟩) (1) (hT.ft 382 q) _ j0) fun tk a w hK hp s => ?_
         refine gk hE hZ hK fun hE hZ => ?_; clear hK
         obtain rfl := hp
         refine S s<|nzw 30 q (y_not · q)<|nzw 31 q (pO · q q) fun a s => ?_
         refine n_end (by kernel_rfl) ?_; clear hR hZ hE
         apply pN
         exact ⟨(!(l0)), hg, (s.sb q q q)⟩
     ·refine l_quiet s q q (lB 1001 s u35 q) fun a s => ?_; refine ⟨fun g _ h => h, ?_⟩
      obtain ⟨sD, p1, pW⟩ := SlR.elemX (s.ft 114 q) g0
      refine S s<|new 25 hE q (fun w' s => y_elem (sz := 8) (i := o0) s q q u35 q p1 q (lt_of_get g0))<|new 26 hE q (fun w' s => y_ptrField (o' := 2) s q u94 q q q) fun a s => ?_
      refine n_2 20 27 s (by kernel_rfl) q ⟨_, _, _, q, q, q, q⟩ q ⟨_, _, _, q, q, q, q⟩ ?_ ?_
      ·obtain ⟨k8, n9, nh, a7, Y5⟩ := (SlR.again (s.ft 105 q) e0 r0)
       obtain ⟨fS, kf, fT, kg, fU, kh, fV, ki, rfl, bS, qZ, ra, bT, bU, bV⟩ := RLexDecl.open a7
       replace s := s.ns 383 bS |>.ns 384 bT |>.ns 385 bU |>.ns 386 bV
       refine l_quiet s q q (lD [_, _, _, _, _, _] 2 s k8 n9 Y5 u62 q) fun a s => ?_; refine ⟨fun g _ h => h, ?_⟩
       refine n_2 21 27 s (by kernel_rfl) q ⟨_, _, _, q, q, q, q⟩ q ⟨_, _, _, q, q, q, q⟩ ?_ ?_
       ·refine l_buildDense (sz := 6) s 2121 q q q u33 q q q q q q q fun y4 a w p2 hK s => ?_
        have oB := NewA.lit hZ p2
        clear p2
        refine gk hE hZ hK fun hE hZ => ?_; clear hK
        obtain ⟨l8, o9, ni, b7, Z5⟩ := (SlR.again (s.ft 114 q) g0 p1)
        obtain ⟨fW, kj, fX, kl, fY, km, fZ, kn, rfl, bW, rb, rc, bX, bY, bZ⟩ := RLexDecl.open b7
        refine S s<|nsw 387 bW<|nsw 388 bX<|nsw 389 bY<|nsw 390 bZ<|nzw 27 q (lD [_, _, _, _, _, _] 2 · l8 o9 Z5 u62 q) fun a s => ?_
        refine n_1 28 s (by kernel_rfl) q ⟨_, _, _, q, q, q, q⟩ (l_buildDense (sz := 6) s 2128 q q q u33 q q q q q q q fun z4 a w q2 hK s => ?_)
        have oC := NewA.lit hZ q2
        clear q2
        refine gk hE hZ hK fun hE hZ => ?_; clear hK
        replace s := s.add 391 (rdF RDef (cellsOfL [.agg #[_, _, _, _, _, _]]) ([a0.Def])) (RdAll.cons (by exact (RDef.mk' (x := a0.Def) (by omega) (by omega) (s.ft 384 q) (s.ft 385 q) (s.ft 386 q))) (rN))
        replace s := s.add 392 (rdF RDef (cellsOfL [.agg #[_, _, _, _, _, _]]) ([b0.Def])) (RdAll.cons (by exact (RDef.mk' (x := b0.Def) (by omega) (by omega) (s.ft 388 q) (s.ft 389 q) (s.ft 390 q))) (rN))
        have hT := s
        replace hT := hT.fz (R := RDef) (kk := 2121) [1000, 1001, 2128] 393 q q (hT.ft 391 q) q
        replace hT := hT.fz (R := RDef) (kk := 2128) [1000, 1001] 394 q q (hT.ft 392 q) q
        refine nC 29 s q q func49 (c_r21_sameDefs n _ _ hT.lt [a0.Def] (some ⟨y4, 0, none⟩) (1) (hT.ft 393 q) [b0.Def] (some ⟨z4, 0, none⟩) (1) (hT.ft 394 q) _ j0) fun tl a w hK hp s => ?_
        refine gk hE hZ hK fun hE hZ => ?_; clear hK
        obtain rfl := hp
        refine S s<|nzw 30 q (y_not · q)<|nzw 31 q (pO · q q) fun a s => ?_
        refine n_end (by kernel_rfl) ?_; clear hR hZ hE
        apply pN
        exact ⟨(!(l0)), hg, (s.sb q q q)⟩
       ·obtain ⟨m8, p9, nj, c7, a6⟩ := (SlR.again (s.ft 114 q) g0 p1)
        obtain ⟨ga, ko, gb, kp, gc, kq, gd, kr, rfl, ca, re, rf, cb, cc, cd⟩ := RLexDecl.open c7
        replace s := s.ns 395 ca |>.ns 396 cb |>.ns 397 cc |>.ns 398 cd
        refine l_quiet s q q (lD [_, _, _, _, _, _] 2 s m8 p9 a6 u62 q) fun a s => ?_; refine ⟨fun g _ h => h, ?_⟩
        refine n_2 21 28 s (by kernel_rfl) q ⟨_, _, _, q, q, q, q⟩ q ⟨_, _, _, q, q, q, q⟩ ?_ ?_
        ·refine l_buildDense (sz := 6) s 2121 q q q u33 q q q q q q q fun B4 a w r2 hK s => ?_
         have oD := NewA.lit hZ r2
         clear r2
         refine gk hE hZ hK fun hE hZ => ?_; clear hK
         refine n_1 28 s (by kernel_rfl) q ⟨_, _, _, q, q, q, q⟩ (l_buildDense (sz := 6) s 2128 q q q u33 q q q q q q q fun C4 a w s2 hK s => ?_)
         have oE := NewA.lit hZ s2
         clear s2
         refine gk hE hZ hK fun hE hZ => ?_; clear hK
         replace s := s.add 399 (rdF RDef (cellsOfL [.agg #[_, _, _, _, _, _]]) ([a0.Def])) (RdAll.cons (by exact (RDef.mk' (x := a0.Def) (by omega) (by omega) (s.ft 384 q) (s.ft 385 q) (s.ft 386 q))) (rN))
         replace s := s.add 400 (rdF RDef (cellsOfL [.agg #[_, _, _, _, _, _]]) ([b0.Def])) (RdAll.cons (by exact (RDef.mk' (x := b0.Def) (by omega) (by omega) (s.ft 396 q) (s.ft 397 q) (s.ft 398 q))) (rN))
         have hT := s
         replace hT := hT.fz (R := RDef) (kk := 2121) [1000, 1001, 2128] 401 q q (hT.ft 399 q) q
         replace hT := hT.fz (R := RDef) (kk := 2128) [1000, 1001] 402 q q (hT.ft 400 q) q
         refine nC 29 s q q func49 (c_r21_sameDefs n _ _ hT.lt [a0.Def] (some ⟨B4, 0, none⟩) (1) (hT.ft 401 q) [b0.Def] (some ⟨C4, 0, none⟩) (1) (hT.ft 402 q) _ j0) fun tm a w hK hp s => ?_
         refine gk hE hZ hK fun hE hZ => ?_; clear hK
         obtain rfl := hp
         refine S s<|nzw 30 q (y_not · q)<|nzw 31 q (pO · q q) fun a s => ?_
         refine n_end (by kernel_rfl) ?_; clear hR hZ hE
         apply pN
         exact ⟨(!(l0)), hg, (s.sb q q q)⟩
        ·refine l_buildDense (sz := 6) s 2128 q q q u33 q q q q q q q fun D4 a w t2 hK s => ?_
         have oF := NewA.lit hZ t2
         clear t2
         refine gk hE hZ hK fun hE hZ => ?_; clear hK
         refine n_1 21 s (by kernel_rfl) q ⟨_, _, _, q, q, q, q⟩ (l_buildDense (sz := 6) s 2121 q q q u33 q q q q q q q fun E4 a w u2 hK s => ?_)
         have oG := NewA.lit hZ u2
         clear u2
         refine gk hE hZ hK fun hE hZ => ?_; clear hK
         replace s := s.add 403 (rdF RDef (cellsOfL [.agg #[_, _, _, _, _, _]]) ([a0.Def])) (RdAll.cons (by exact (RDef.mk' (x := a0.Def) (by omega) (by omega) (s.ft 384 q) (s.ft 385 q) (s.ft 386 q))) (rN))
         replace s := s.add 404 (rdF RDef (cellsOfL [.agg #[_, _, _, _, _, _]]) ([b0.Def])) (RdAll.cons (by exact (RDef.mk' (x := b0.Def) (by omega) (by omega) (s.ft 396 q) (s.ft 397 q) (s.ft 398 q))) (rN))
         have hT := s
         replace hT := hT.fz (R := RDef) (kk := 2121) [1000, 1001, 2128] 405 q q (hT.ft 403 q) q
         replace hT := hT.fz (R := RDef) (kk := 2128) [1000, 1001] 406 q q (hT.ft 404 q) q
         refine nC 29 s q q func49 (c_r21_sameDefs n _ _ hT.lt [a0.Def] (some ⟨E4, 0, none⟩) (1) (hT.ft 405 q) [b0.Def] (some ⟨D4, 0, none⟩) (1) (hT.ft 406 q) _ j0) fun tn a w hK hp s => ?_
         refine gk hE hZ hK fun hE hZ => ?_; clear hK
         obtain rfl := hp
         refine S s<|nzw 30 q (y_not · q)<|nzw 31 q (pO · q q) fun a s => ?_
         refine n_end (by kernel_rfl) ?_; clear hR hZ hE
         apply pN
         exact ⟨(!(l0)), hg, (s.sb q q q)⟩
      ·obtain ⟨n8, q9, nk, d7, b6⟩ := (SlR.again (s.ft 114 q) g0 p1)
       obtain ⟨ge, ks, gf, kt, gg, ku, gh, kv, rfl, ce, rg, rh, cf, cg, ch⟩ := RLexDecl.open d7
       replace s := s.ns 407 ce |>.ns 408 cf |>.ns 409 cg |>.ns 410 ch
       refine l_quiet s q q (lD [_, _, _, _, _, _] 2 s n8 q9 b6 u62 q) fun a s => ?_; refine ⟨fun g _ h => h, ?_⟩
       refine n_2 20 28 s (by kernel_rfl) q ⟨_, _, _, q, q, q, q⟩ q ⟨_, _, _, q, q, q, q⟩ ?_ ?_
       ·obtain ⟨o8, r9, nl, e7, c6⟩ := (SlR.again (s.ft 105 q) e0 r0)
        obtain ⟨gi, kx, gj, ky, gp, kz, gq, kA, rfl, ci, ri, rj, cj, ck, cl⟩ := RLexDecl.open e7
        replace s := s.ns 411 ci |>.ns 412 cj |>.ns 413 ck |>.ns 414 cl
        refine l_quiet s q q (lD [_, _, _, _, _, _] 2 s o8 r9 c6 u62 q) fun a s => ?_; refine ⟨fun g _ h => h, ?_⟩
        refine n_2 21 28 s (by kernel_rfl) q ⟨_, _, _, q, q, q, q⟩ q ⟨_, _, _, q, q, q, q⟩ ?_ ?_
        ·refine l_buildDense (sz := 6) s 2121 q q q u33 q q q q q q q fun F4 a w v2 hK s => ?_
         have oH := NewA.lit hZ v2
         clear v2
         refine gk hE hZ hK fun hE hZ => ?_; clear hK
         refine n_1 28 s (by kernel_rfl) q ⟨_, _, _, q, q, q, q⟩ (l_buildDense (sz := 6) s 2128 q q q u33 q q q q q q q fun G4 a w w2 hK s => ?_)
         have oI := NewA.lit hZ w2
         clear w2
         refine gk hE hZ hK fun hE hZ => ?_; clear hK
         replace s := s.add 415 (rdF RDef (cellsOfL [.agg #[_, _, _, _, _, _]]) ([a0.Def])) (RdAll.cons (by exact (RDef.mk' (x := a0.Def) (by omega) (by omega) (s.ft 412 q) (s.ft 413 q) (s.ft 414 q))) (rN))
         replace s := s.add 416 (rdF RDef (cellsOfL [.agg #[_, _, _, _, _, _]]) ([b0.Def])) (RdAll.cons (by exact (RDef.mk' (x := b0.Def) (by omega) (by omega) (s.ft 408 q) (s.ft 409 q) (s.ft 410 q))) (rN))
         have hT := s
         replace hT := hT.fz (R := RDef) (kk := 2121) [1000, 1001, 2128] 417 q q (hT.ft 415 q) q
         replace hT := hT.fz (R := RDef) (kk := 2128) [1000, 1001] 418 q q (hT.ft 416 q) q
         refine nC 29 s q q func49 (c_r21_sameDefs n _ _ hT.lt [a0.Def] (some ⟨F4, 0, none⟩) (1) (hT.ft 417 q) [b0.Def] (some ⟨G4, 0, none⟩) (1) (hT.ft 418 q) _ j0) fun tp a w hK hp s => ?_
         refine gk hE hZ hK fun hE hZ => ?_; clear hK
         obtain rfl := hp
         refine S s<|nzw 30 q (y_not · q)<|nzw 31 q (pO · q q) fun a s => ?_
         refine n_end (by kernel_rfl) ?_; clear hR hZ hE
         apply pN
         exact ⟨(!(l0)), hg, (s.sb q q q)⟩
        ·refine l_buildDense (sz := 6) s 2128 q q q u33 q q q q q q q fun H4 a w x2 hK s => ?_
         have oJ := NewA.lit hZ x2
         clear x2
         refine gk hE hZ hK fun hE hZ => ?_; clear hK
         refine n_1 21 s (by kernel_rfl) q ⟨_, _, _, q, q, q, q⟩ (l_buildDense (sz := 6) s 2121 q q q u33 q q q q q q q fun I4 a w y2 hK s => ?_)
         have oK := NewA.lit hZ y2
         clear y2
         refine gk hE hZ hK fun hE hZ => ?_; clear hK
         replace s := s.add 419 (rdF RDef (cellsOfL [.agg #[_, _, _, _, _, _]]) ([a0.Def])) (RdAll.cons (by exact (RDef.mk' (x := a0.Def) (by omega) (by omega) (s.ft 412 q) (s.ft 413 q) (s.ft 414 q))) (rN))
         replace s := s.add 420 (rdF RDef (cellsOfL [.agg #[_, _, _, _, _, _]]) ([b0.Def])) (RdAll.cons (by exact (RDef.mk' (x := b0.Def) (by omega) (by omega) (s.ft 408 q) (s.ft 409 q) (s.ft 410 q))) (rN))
         have hT := s
         replace hT := hT.fz (R := RDef) (kk := 2121) [1000, 1001, 2128] 421 q q (hT.ft 419 q) q
         replace hT := hT.fz (R := RDef) (kk := 2128) [1000, 1001] 422 q q (hT.ft 420 q) q
         refine nC 29 s q q func49 (c_r21_sameDefs n _ _ hT.lt [a0.Def] (some ⟨I4, 0, none⟩) (1) (hT.ft 421 q) [b0.Def] (some ⟨H4, 0, none⟩) (1) (hT.ft 422 q) _ j0) fun tq a w hK hp s => ?_
         refine gk hE hZ hK fun hE hZ => ?_; clear hK
         obtain rfl := hp
         refine S s<|nzw 30 q (y_not · q)<|nzw 31 q (pO · q q) fun a s => ?_
         refine n_end (by kernel_rfl) ?_; clear hR hZ hE
         apply pN
         exact ⟨(!(l0)), hg, (s.sb q q q)⟩
       ·refine l_buildDense (sz := 6) s 2128 q q q u33 q q q q q q q fun J4 a w z2 hK s => ?_
        have oL := NewA.lit hZ z2
        clear z2
        refine gk hE hZ hK fun hE hZ => ?_; clear hK
        obtain ⟨p8, s9, nm, g7, d6⟩ := (SlR.again (s.ft 105 q) e0 r0)
        obtain ⟨gr, kB, gs, kC, gt, kD, gu, kE, rfl, cm, rk, rl, cn, co, cp⟩ := RLexDecl.open g7
        refine S s<|nsw 423 cm<|nsw 424 cn<|nsw 425 co<|nsw 426 cp<|nzw 20 q (lD [_, _, _, _, _, _] 2 · p8 s9 d6 u62 q) fun a s => ?_
        refine n_1 21 s (by kernel_rfl) q ⟨_, _, _, q, q, q, q⟩ (l_buildDense (sz := 6) s 2121 q q q u33 q q q q q q q fun K4 a w B2 hK s => ?_)
        have oM := NewA.lit hZ B2
        clear B2
        refine gk hE hZ hK fun hE hZ => ?_; clear hK
        replace s := s.add 427 (rdF RDef (cellsOfL [.agg #[_, _, _, _, _, _]]) ([a0.Def])) (RdAll.cons (by exact (RDef.mk' (x := a0.Def) (by omega) (by omega) (s.ft 424 q) (s.ft 425 q) (s.ft 426 q))) (rN))
        replace s := s.add 428 (rdF RDef (cellsOfL [.agg #[_, _, _, _, _, _]]) ([b0.Def])) (RdAll.cons (by exact (RDef.mk' (x := b0.Def) (by omega) (by omega) (s.ft 408 q) (s.ft 409 q) (s.ft 410 q))) (rN))
        have hT := s
        replace hT := hT.fz (R := RDef) (kk := 2121) [1000, 1001, 2128] 429 q q (hT.ft 427 q) q
        replace hT := hT.fz (R := RDef) (kk := 2128) [1000, 1001] 430 q q (hT.ft 428 q) q
        refine nC 29 s q q func49 (c_r21_sameDefs n _ _ hT.lt [a0.Def] (some ⟨K4, 0, none⟩) (1) (hT.ft 429 q) [b0.Def] (some ⟨J4, 0, none⟩) (1) (hT.ft 430 q) _ j0) fun tr a w hK hp s => ?_
        refine gk hE hZ hK fun hE hZ => ?_; clear hK
        obtain rfl := hp
        refine S s<|nzw 30 q (y_not · q)<|nzw 31 q (pO · q q) fun a s => ?_
        refine n_end (by kernel_rfl) ?_; clear hR hZ hE
        apply pN
        exact ⟨(!(l0)), hg, (s.sb q q q)⟩
    ·refine l_quiet s q q (lB 1001 s u35 q) fun a s => ?_; refine ⟨fun g _ h => h, ?_⟩
     obtain ⟨sE, s0, pX⟩ := SlR.elemX (s.ft 114 q) g0
     refine S s<|new 25 hE q (fun w' s => y_elem (sz := 8) (i := o0) s q q u35 q s0 q (lt_of_get g0))<|new 26 hE q (fun w' s => y_ptrField (o' := 2) s q u94 q q q) fun a s => ?_
     refine n_2 16 27 s (by kernel_rfl) q ⟨_, _, _, q, q, q, q⟩ q ⟨_, _, _, q, q, q, q⟩ ?_ ?_
     ·refine l_quiet s q q (lB 1000 s u35 q) fun a s => ?_; refine ⟨fun g _ h => h, ?_⟩
      obtain ⟨sG, q1, pY⟩ := SlR.elemX (s.ft 105 q) e0
      refine S s<|new 18 hE q (fun w' s => y_elem (sz := 8) (i := o0) s q q u35 q q1 q (lt_of_get e0))<|new 19 hE q (fun w' s => y_ptrField (o' := 2) s q u94 q q q) fun a s => ?_
      refine n_2 20 27 s (by kernel_rfl) q ⟨_, _, _, q, q, q, q⟩ q ⟨_, _, _, q, q, q, q⟩ ?_ ?_
      ·obtain ⟨q8, t9, nn, h7, e6⟩ := (SlR.again (s.ft 105 q) e0 q1)
       obtain ⟨gv, kF, gx, kG, gA, kH, gB, kI, rfl, cq, rm, ro, cr, ct, cu⟩ := RLexDecl.open h7
       replace s := s.ns 431 cq |>.ns 432 cr |>.ns 433 ct |>.ns 434 cu
       refine l_quiet s q q (lD [_, _, _, _, _, _] 2 s q8 t9 e6 u62 q) fun a s => ?_; refine ⟨fun g _ h => h, ?_⟩
       refine n_2 21 27 s (by kernel_rfl) q ⟨_, _, _, q, q, q, q⟩ q ⟨_, _, _, q, q, q, q⟩ ?_ ?_
       ·refine l_buildDense (sz := 6) s 2121 q q q u33 q q q q q q q fun L4 a w C2 hK s => ?_
        have oN := NewA.lit hZ C2
        clear C2
        refine gk hE hZ hK fun hE hZ => ?_; clear hK
        obtain ⟨r8, v9, np, i7, g6⟩ := (SlR.again (s.ft 114 q) g0 s0)
        obtain ⟨gD, kJ, gE, kK, gF, kL, gG, kM, rfl, cv, rp, rq, cw, cy, cz⟩ := RLexDecl.open i7
        refine S s<|nsw 435 cv<|nsw 436 cw<|nsw 437 cy<|nsw 438 cz<|nzw 27 q (lD [_, _, _, _, _, _] 2 · r8 v9 g6 u62 q) fun a s => ?_
        refine n_1 28 s (by kernel_rfl) q ⟨_, _, _, q, q, q, q⟩ (l_buildDense (sz := 6) s 2128 q q q u33 q q q q q q q fun M4 a w D2 hK s => ?_)
        have oO := NewA.lit hZ D2
        clear D2
        refine gk hE hZ hK fun hE hZ => ?_; clear hK
        replace s := s.add 439 (rdF RDef (cellsOfL [.agg #[_, _, _, _, _, _]]) ([a0.Def])) (RdAll.cons (by exact (RDef.mk' (x := a0.Def) (by omega) (by omega) (s.ft 432 q) (s.ft 433 q) (s.ft 434 q))) (rN))
        replace s := s.add 440 (rdF RDef (cellsOfL [.agg #[_, _, _, _, _, _]]) ([b0.Def])) (RdAll.cons (by exact (RDef.mk' (x := b0.Def) (by omega) (by omega) (s.ft 436 q) (s.ft 437 q) (s.ft 438 q))) (rN))
        have hT := s
        replace hT := hT.fz (R := RDef) (kk := 2121) [1000, 1001, 2128] 441 q q (hT.ft 439 q) q
        replace hT := hT.fz (R := RDef) (kk := 2128) [1000, 1001] 442 q q (hT.ft 440 q) q
        refine nC 29 s q q func49 (c_r21_sameDefs n _ _ hT.lt [a0.Def] (some ⟨L4, 0, none⟩) (1) (hT.ft 441 q) [b0.Def] (some ⟨M4, 0, none⟩) (1) (hT.ft 442 q) _ j0) fun ts a w hK hp s => ?_
        refine gk hE hZ hK fun hE hZ => ?_; clear hK
        obtain rfl := hp
        refine S s<|nzw 30 q (y_not · q)<|nzw 31 q (pO · q q) fun a s => ?_
        refine n_end (by kernel_rfl) ?_; clear hR hZ hE
        apply pN
        exact ⟨(!(l0)), hg, (s.sb q q q)⟩
       ·obtain ⟨s8, w9, nr, j7, h6⟩ := (SlR.again (s.ft 114 q) g0 s0)
        obtain ⟨gH, kN, gI, kO, gJ, kP, gK, kQ, rfl, cA, rr, rs, cB, cC, cD⟩ := RLexDecl.open j7
        replace s := s.ns 443 cA |>.ns 444 cB |>.ns 445 cC |>.ns 446 cD
        refine l_quiet s q q (lD [_, _, _, _, _, _] 2 s s8 w9 h6 u62 q) fun a s => ?_; refine ⟨fun g _ h => h, ?_⟩
        refine n_2 21 28 s (by kernel_rfl) q ⟨_, _, _, q, q, q, q⟩ q ⟨_, _, _, q, q, q, q⟩ ?_ ?_
        ·refine l_buildDense (sz := 6) s 2121 q q q u33 q q q q q q q fun O4 a w E2 hK s => ?_
         have oP := NewA.lit hZ E2
         clear E2
         refine gk hE hZ hK fun hE hZ => ?_; clear hK
         refine n_1 28 s (by kernel_rfl) q ⟨_, _, _, q, q, q, q⟩ (l_buildDense (sz := 6) s 2128 q q q u33 q q q q q q q fun P4 a w F2 hK s => ?_)
         have oQ := NewA.lit hZ F2
         clear F2
         refine gk hE hZ hK fun hE hZ => ?_; clear hK
         replace s := s.add 447 (rdF RDef (cellsOfL [.agg #[_, _, _, _, _, _]]) ([a0.Def])) (RdAll.cons (by exact (RDef.mk' (x := a0.Def) (by omega) (by omega) (s.ft 432 q) (s.ft 433 q) (s.ft 434 q))) (rN))
         replace s := s.add 448 (rdF RDef (cellsOfL [.agg #[_, _, _, _, _, _]]) ([b0.Def])) (RdAll.cons (by exact (RDef.mk' (x := b0.Def) (by omega) (by omega) (s.ft 444 q) (s.ft 445 q) (s.ft 446 q))) (rN))
         have hT := s
         replace hT := hT.fz (R := RDef) (kk := 2121) [1000, 1001, 2128] 449 q q (hT.ft 447 q) q
         replace hT := hT.fz (R := RDef) (kk := 2128) [1000, 1001] 450 q q (hT.ft 448 q) q
         refine nC 29 s q q func49 (c_r21_sameDefs n _ _ hT.lt [a0.Def] (some ⟨O4, 0, none⟩) (1) (hT.ft 449 q) [b0.Def] (some ⟨P4, 0, none⟩) (1) (hT.ft 450 q) _ j0) fun tt a w hK hp s => ?_
         refine gk hE hZ hK fun hE hZ => ?_; clear hK
         obtain rfl := hp
         refine S s<|nzw 30 q (y_not · q)<|nzw 31 q (pO · q q) fun a s => ?_
         refine n_end (by kernel_rfl) ?_; clear hR hZ hE
         apply pN
         exact ⟨(!(l0)), hg, (s.sb q q q)⟩
        ·refine l_buildDense (sz := 6) s 2128 q q q u33 q q q q q q q fun Q4 a w G2 hK s => ?_
         have oR := NewA.lit hZ G2
         clear G2
         refine gk hE hZ hK fun hE hZ => ?_; clear hK
         refine n_1 21 s (by kernel_rfl) q ⟨_, _, _, q, q, q, q⟩ (l_buildDense (sz := 6) s 2121 q q q u33 q q q q q q q fun R4 a w H2 hK s => ?_)
         have oS := NewA.lit hZ H2
         clear H2
         refine gk hE hZ hK fun hE hZ => ?_; clear hK
         replace s := s.add 451 (rdF RDef (cellsOfL [.agg #[_, _, _, _, _, _]]) ([a0.Def])) (RdAll.cons (by exact (RDef.mk' (x := a0.Def) (by omega) (by omega) (s.ft 432 q) (s.ft 433 q) (s.ft 434 q))) (rN))
         replace s := s.add 452 (rdF RDef (cellsOfL [.agg #[_, _, _, _, _, _]]) ([b0.Def])) (RdAll.cons (by exact (RDef.mk' (x := b0.Def) (by omega) (by omega) (s.ft 444 q) (s.ft 445 q) (s.ft 446 q))) (rN))
         have hT := s
         replace hT := hT.fz (R := RDef) (kk := 2121) [1000, 1001, 2128] 453 q q (hT.ft 451 q) q
         replace hT := hT.fz (R := RDef) (kk := 2128) [1000, 1001] 454 q q (hT.ft 452 q) q
         refine nC 29 s q q func49 (c_r21_sameDefs n _ _ hT.lt [a0.Def] (some ⟨R4, 0, none⟩) (1) (hT.ft 453 q) [b0.Def] (some ⟨Q4, 0, none⟩) (1) (hT.ft 454 q) _ j0) fun tu a w hK hp s => ?_
         refine gk hE hZ hK fun hE hZ => ?_; clear hK
         obtain rfl := hp
         refine S s<|nzw 30 q (y_not · q)<|nzw 31 q (pO · q q) fun a s => ?_
         refine n_end (by kernel_rfl) ?_; clear hR hZ hE
         apply pN
         exact ⟨(!(l0)), hg, (s.sb q q q)⟩
      ·obtain ⟨t8, x9, nt, k7, i6⟩ := (SlR.again (s.ft 114 q) g0 s0)
       obtain ⟨gL, kR, gM, kS, gN, kT, gO, kU, rfl, cE, rt, ru, cF, cG, cH⟩ := RLexDecl.open k7
       replace s := s.ns 455 cE |>.ns 456 cF |>.ns 457 cG |>.ns 458 cH
       refine l_quiet s q q (lD [_, _, _, _, _, _] 2 s t8 x9 i6 u62 q) fun a s => ?_; refine ⟨fun g _ h => h, ?_⟩
       refine n_2 20 28 s (by kernel_rfl) q ⟨_, _, _, q, q, q, q⟩ q ⟨_, _, _, q, q, q, q⟩ ?_ ?_
       ·obtain ⟨v8, y9, nu, l7, j6⟩ := (SlR.again (s.ft 105 q) e0 q1)
        obtain ⟨gP, kV, gQ, kW, gR, kX, gS, kY, rfl, cI, rv, rx, cJ, cK, cL⟩ := RLexDecl.open l7
        replace s := s.ns 459 cI |>.ns 460 cJ |>.ns 461 cK |>.ns 462 cL
        refine l_quiet s q q (lD [_, _, _, _, _, _] 2 s v8 y9 j6 u62 q) fun a s => ?_; refine ⟨fun g _ h => h, ?_⟩
        refine n_2 21 28 s (by kernel_rfl) q ⟨_, _, _, q, q, q, q⟩ q ⟨_, _, _, q, q, q, q⟩ ?_ ?_
        ·refine l_buildDense (sz := 6) s 2121 q q q u33 q q q q q q q fun S4 a w I2 hK s => ?_
         have oT := NewA.lit hZ I2
         clear I2
         refine gk hE hZ hK fun hE hZ => ?_; clear hK
         refine n_1 28 s (by kernel_rfl) q ⟨_, _, _, q, q, q, q⟩ (l_buildDense (sz := 6) s 2128 q q q u33 q q q q q q q fun T4 a w J2 hK s => ?_)
         have oU := NewA.lit hZ J2
         clear J2
         refine gk hE hZ hK fun hE hZ => ?_; clear hK
         replace s := s.add 463 (rdF RDef (cellsOfL [.agg #[_, _, _, _, _, _]]) ([a0.Def])) (RdAll.cons (by exact (RDef.mk' (x := a0.Def) (by omega) (by omega) (s.ft 460 q) (s.ft 461 q) (s.ft 462 q))) (rN))
         replace s := s.add 464 (rdF RDef (cellsOfL [.agg #[_, _, _, _, _, _]]) ([b0.Def])) (RdAll.cons (by exact (RDef.mk' (x := b0.Def) (by omega) (by omega) (s.ft 456 q) (s.ft 457 q) (s.ft 458 q))) (rN))
         have hT := s
         replace hT := hT.fz (R := RDef) (kk := 2121) [1000, 1001, 2128] 465 q q (hT.ft 463 q) q
         replace hT := hT.fz (R := RDef) (kk := 2128) [1000, 1001] 466 q q (hT.ft 464 q) q
         refine nC 29 s q q func49 (c_r21_sameDefs n _ _ hT.lt [a0.Def] (some ⟨S4, 0, none⟩) (1) (hT.ft 465 q) [b0.Def] (some ⟨T4, 0, none⟩) (1) (hT.ft 466 q) _ j0) fun tv a w hK hp s => ?_
         refine gk hE hZ hK fun hE hZ => ?_; clear hK
         obtain rfl := hp
         refine S s<|nzw 30 q (y_not · q)<|nzw 31 q (pO · q q) fun a s => ?_
         refine n_end (by kernel_rfl) ?_; clear hR hZ hE
         apply pN
         exact ⟨(!(l0)), hg, (s.sb q q q)⟩
        ·refine l_buildDense (sz := 6) s 2128 q q q u33 q q q q q q q fun U4 a w K2 hK s => ?_
         have oV := NewA.lit hZ K2
         clear K2
         refine gk hE hZ hK fun hE hZ => ?_; clear hK
         refine n_1 21 s (by kernel_rfl) q ⟨_, _, _, q, q, q, q⟩ (l_buildDense (sz := 6) s 2121 q q q u33 q q q q q q q fun V4 a w L2 hK s => ?_)
         have oW := NewA.lit hZ L2
         clear L2
         refine gk hE hZ hK fun hE hZ => ?_; clear hK
         replace s := s.add 467 (rdF RDef (cellsOfL [.agg #[_, _, _, _, _, _]]) ([a0.Def])) (RdAll.cons (by exact (RDef.mk' (x := a0.Def) (by omega) (by omega) (s.ft 460 q) (s.ft 461 q) (s.ft 462 q))) (rN))
         replace s := s.add 468 (rdF RDef (cellsOfL [.agg #[_, _, _, _, _, _]]) ([b0.Def])) (RdAll.cons (by exact (RDef.mk' (x := b0.Def) (by omega) (by omega) (s.ft 456 q) (s.ft 457 q) (s.ft 458 q))) (rN))
         have hT := s
         replace hT := hT.fz (R := RDef) (kk := 2121) [1000, 1001, 2128] 469 q q (hT.ft 467 q) q
         replace hT := hT.fz (R := RDef) (kk := 2128) [1000, 1001] 470 q q (hT.ft 468 q) q
         refine nC 29 s q q func49 (c_r21_sameDefs n _ _ hT.lt [a0.Def] (some ⟨V4, 0, none⟩) (1) (hT.ft 469 q) [b0.Def] (some ⟨U4, 0, none⟩) (1) (hT.ft 470 q) _ j0) fun tx a w hK hp s => ?_
         refine gk hE hZ hK fun hE hZ => ?_; clear hK
         obtain rfl := hp
         refine S s<|nzw 30 q (y_not · q)<|nzw 31 q (pO · q q) fun a s => ?_
         refine n_end (by kernel_rfl) ?_; clear hR hZ hE
         apply pN
         exact ⟨(!(l0)), hg, (s.sb q q q)⟩
       ·refine l_buildDense (sz := 6) s 2128 q q q u33 q q q q q q q fun X4 a w M2 hK s => ?_
        have oX := NewA.lit hZ M2
        clear M2
        refine gk hE hZ hK fun hE hZ => ?_; clear hK
        obtain ⟨x8, B9, nx, n7, l6⟩ := (SlR.again (s.ft 105 q) e0 q1)
        obtain ⟨gW, lb, gX, ld, gY, le, gZ, lf, rfl, cO, rA, rB, cP, cQ, cR⟩ := RLexDecl.open n7
        refine S s<|nsw 471 cO<|nsw 472 cP<|nsw 473 cQ<|nsw 474 cR<|nzw 20 q (lD [_, _, _, _, _, _] 2 · x8 B9 l6 u62 q) fun a s => ?_
        refine n_1 21 s (by kernel_rfl) q ⟨_, _, _, q, q, q, q⟩ (l_buildDense (sz := 6) s 2121 q q q u33 q q q q q q q fun Y4 a w O2 hK s => ?_)
        have oY := NewA.lit hZ O2
        clear O2
        refine gk hE hZ hK fun hE hZ => ?_; clear hK
        replace s := s.add 475 (rdF RDef (cellsOfL [.agg #[_, _, _, _, _, _]]) ([a0.Def])) (RdAll.cons (by exact (RDef.mk' (x := a0.Def) (by omega) (by omega) (s.ft 472 q) (s.ft 473 q) (s.ft 474 q))) (rN))
        replace s := s.add 476 (rdF RDef (cellsOfL [.agg #[_, _, _, _, _, _]]) ([b0.Def])) (RdAll.cons (by exact (RDef.mk' (x := b0.Def) (by omega) (by omega) (s.ft 456 q) (s.ft 457 q) (s.ft 458 q))) (rN))
        have hT := s
        replace hT := hT.fz (R := RDef) (kk := 2121) [1000, 1001, 2128] 477 q q (hT.ft 475 q) q
        replace hT := hT.fz (R := RDef) (kk := 2128) [1000, 1001] 478 q q (hT.ft 476 q) q
        refine nC 29 s q q func49 (c_r21_sameDefs n _ _ hT.lt [a0.Def] (some ⟨Y4, 0, none⟩) (1) (hT.ft 477 q) [b0.Def] (some ⟨X4, 0, none⟩) (1) (hT.ft 478 q) _ j0) fun ty a w hK hp s => ?_
        refine gk hE hZ hK fun hE hZ => ?_; clear hK
        obtain rfl := hp
        refine S s<|nzw 30 q (y_not · q)<|nzw 31 q (pO · q q) fun a s => ?_
        refine n_end (by kernel_rfl) ?_; clear hR hZ hE
        apply pN
        exact ⟨(!(l0)), hg, (s.sb q q q)⟩
     ·obtain ⟨y8, C9, ny, o7, m6⟩ := (SlR.again (s.ft 114 q) g0 s0)
      obtain ⟨hd, li, he, lj, hf, lk, hh, ll, rfl, cU, rC, rD, cV, cW, cX⟩ := RLexDecl.open o7
      replace s := s.ns 479 cU |>.ns 480 cV |>.ns 481 cW |>.ns 482 cX
      refine l_quiet s q q (lD [_, _, _, _, _, _] 2 s y8 C9 m6 u62 q) fun a s => ?_; refine ⟨fun g _ h => h, ?_⟩
      refine n_2 16 28 s (by kernel_rfl) q ⟨_, _, _, q, q, q, q⟩ q ⟨_, _, _, q, q, q, q⟩ ?_ ?_
      ·refine l_quiet s q q (lB 1000 s u35 q) fun a s => ?_; refine ⟨fun g _ h => h, ?_⟩
       obtain ⟨sJ, D1, qb⟩ := SlR.elemX (s.ft 105 q) e0
       refine S s<|new 18 hE q (fun w' s => y_elem (sz := 8) (i := o0) s q q u35 q D1 q (lt_of_get e0))<|new 19 hE q (fun w' s => y_ptrField (o' := 2) s q u94 q q q) fun a s => ?_
       refine n_2 20 28 s (by kernel_rfl) q ⟨_, _, _, q, q, q, q⟩ q ⟨_, _, _, q, q, q, q⟩ ?_ ?_
       ·obtain ⟨z8, D9, nz, p7, n6⟩ := (SlR.again (s.ft 105 q) e0 D1)
        obtain ⟨hi, lm, hj, ln, hk, lo, hl, lp, rfl, cY, rE, rF, cZ, da, db⟩ := RLexDecl.open p7
        replace s := s.ns 483 cY |>.ns 484 cZ |>.ns 485 da |>.ns 486 db
        refine l_quiet s q q (lD [_, _, _, _, _, _] 2 s z8 D9 n6 u62 q) fun a s => ?_; refine ⟨fun g _ h => h, ?_⟩
        refine n_2 21 28 s (by kernel_rfl) q ⟨_, _, _, q, q, q, q⟩ q ⟨_, _, _, q, q, q, q⟩ ?_ ?_
        ·refine l_buildDense (sz := 6) s 2121 q q q u33 q q q q q q q fun Z4 a w P2 hK s => ?_
         have oZ := NewA.lit hZ P2
         clear P2
         refine gk hE hZ hK fun hE hZ => ?_; clear hK
         refine n_1 28 s (by kernel_rfl) q ⟨_, _, _, q, q, q, q⟩ (l_buildDense (sz := 6) s 2128 q q q u33 q q q q q q q fun a5 a w Q2 hK s => ?_)
         have pa := NewA.lit hZ Q2
         clear Q2
         refine gk hE hZ hK fun hE hZ => ?_; clear hK
         replace s := s.add 487 (rdF RDef (cellsOfL [.agg #[_, _, _, _, _, _]]) ([a0.Def])) (RdAll.cons (by exact (RDef.mk' (x := a0.Def) (by omega) (by omega) (s.ft 484 q) (s.ft 485 q) (s.ft 486 q))) (rN))
         replace s := s.add 488 (rdF RDef (cellsOfL [.agg #[_, _, _, _, _, _]]) ([b0.Def])) (RdAll.cons (by exact (RDef.mk' (x := b0.Def) (by omega) (by omega) (s.ft 480 q) (s.ft 481 q) (s.ft 482 q))) (rN))
         have hT := s
         replace hT := hT.fz (R := RDef) (kk := 2121) [1000, 1001, 2128] 489 q q (hT.ft 487 q) q
         replace hT := hT.fz (R := RDef) (kk := 2128) [1000, 1001] 490 q q (hT.ft 488 q) q
         refine nC 29 s q q func49 (c_r21_sameDefs n _ _ hT.lt [a0.Def] (some ⟨Z4, 0, none⟩) (1) (hT.ft 489 q) [b0.Def] (some ⟨a5, 0, none⟩) (1) (hT.ft 490 q) _ j0) fun tz a w hK hp s => ?_
         refine gk hE hZ hK fun hE hZ => ?_; clear hK
         obtain rfl := hp
         refine S s<|nzw 30 q (y_not · q)<|nzw 31 q (pO · q q) fun a s => ?_
         refine n_end (by kernel_rfl) ?_; clear hR hZ hE
         apply pN
         exact ⟨(!(l0)), hg, (s.sb q q q)⟩
        ·refine l_buildDense (sz := 6) s 2128 q q q u33 q q q q q q q fun b5 a w R2 hK s => ?_
         have pb := NewA.lit hZ R2
         clear R2
         refine gk hE hZ hK fun hE hZ => ?_; clear hK
         refine n_1 21 s (by kernel_rfl) q ⟨_, _, _, q, q, q, q⟩ (l_buildDense (sz := 6) s 2121 q q q u33 q q q q q q q fun c5 a w S2 hK s => ?_)
         have pc := NewA.lit hZ S2
         clear S2
         refine gk hE hZ hK fun hE hZ => ?_; clear hK
         replace s := s.add 491 (rdF RDef (cellsOfL [.agg #[_, _, _, _, _, _]]) ([a0.Def])) (RdAll.cons (by exact (RDef.mk' (x := a0.Def) (by omega) (by omega) (s.ft 484 q) (s.ft 485 q) (s.ft 486 q))) (rN))
         replace s := s.add 492 (rdF RDef (cellsOfL [.agg #[_, _, _, _, _, _]]) ([b0.Def])) (RdAll.cons (by exact (RDef.mk' (x := b0.Def) (by omega) (by omega) (s.ft 480 q) (s.ft 481 q) (s.ft 482 q))) (rN))
         have hT := s
         replace hT := hT.fz (R := RDef) (kk := 2121) [1000, 1001, 2128] 493 q q (hT.ft 491 q) q
         replace hT := hT.fz (R := RDef) (kk := 2128) [1000, 1001] 494 q q (hT.ft 492 q) q
         refine nC 29 s q q func49 (c_r21_sameDefs n _ _ hT.lt [a0.Def] (some ⟨c5, 0, none⟩) (1) (hT.ft 493 q) [b0.Def] (some ⟨b5, 0, none⟩) (1) (hT.ft 494 q) _ j0) fun tA a w hK hp s => ?_
         refine gk hE hZ hK fun hE hZ => ?_; clear hK
         obtain rfl := hp
         refine S s<|nzw 30 q (y_not · q)<|nzw 31 q (pO · q q) fun a s => ?_
         refine n_end (by kernel_rfl) ?_; clear hR hZ hE
         apply pN
         exact ⟨(!(l0)), hg, (s.sb q q q)⟩
       ·refine l_buildDense (sz := 6) s 2128 q q q u33 q q q q q q q fun d5 a w T2 hK s => ?_
        have pd := NewA.lit hZ T2
        clear T2
        refine gk hE hZ hK fun hE hZ => ?_; clear hK
        obtain ⟨C8, F9, nB, r7, p6⟩ := (SlR.again (s.ft 105 q) e0 D1)
        obtain ⟨hn, lr, ho, ls, hq, lu, hr, lv, rfl, dd, rG, rH, de, df, dg⟩ := RLexDecl.open r7
        refine S s<|nsw 495 dd<|nsw 496 de<|nsw 497 df<|nsw 498 dg<|nzw 20 q (lD [_, _, _, _, _, _] 2 · C8 F9 p6 u62 q) fun a s => ?_
        refine n_1 21 s (by kernel_rfl) q ⟨_, _, _, q, q, q, q⟩ (l_buildDense (sz := 6) s 2121 q q q u33 q q q q q q q fun e5 a w U2 hK s => ?_)
        have pe := NewA.lit hZ U2
        clear U2
        refine gk hE hZ hK fun hE hZ => ?_; clear hK
        replace s := s.add 499 (rdF RDef (cellsOfL [.agg #[_, _, _, _, _, _]]) ([a0.Def])) (RdAll.cons (by exact (RDef.mk' (x := a0.Def) (by omega) (by omega) (s.ft 496 q) (s.ft 497 q) (s.ft 498 q))) (rN))
        replace s := s.add 500 (rdF RDef (cellsOfL [.agg #[_, _, _, _, _, _]]) ([b0.Def])) (RdAll.cons (by exact (RDef.mk' (x := b0.Def) (by omega) (by omega) (s.ft 480 q) (s.ft 481 q) (s.ft 482 q))) (rN))
        have hT := s
        replace hT := hT.fz (R := RDef) (kk := 2121) [1000, 1001, 2128] 501 q q (hT.ft 499 q) q
        replace hT := hT.fz (R := RDef) (kk := 2128) [1000, 1001] 502 q q (hT.ft 500 q) q
        refine nC 29 s q q func49 (c_r21_sameDefs n _ _ hT.lt [a0.Def] (some ⟨e5, 0, none⟩) (1) (hT.ft 501 q) [b0.Def] (some ⟨d5, 0, none⟩) (1) (hT.ft 502 q) _ j0) fun tB a w hK hp s => ?_
        refine gk hE hZ hK fun hE hZ => ?_; clear hK
        obtain rfl := hp
        refine S s<|nzw 30 q (y_not · q)<|nzw 31 q (pO · q q) fun a s => ?_
        refine n_end (by kernel_rfl) ?_; clear hR hZ hE
        apply pN
        exact ⟨(!(l0)), hg, (s.sb q q q)⟩
      ·refine l_buildDense (sz := 6) s 2128 q q q u33 q q q q q q q fun g5 a w V2 hK s => ?_
       have pf := NewA.lit hZ V2
       clear V2
       refine gk hE hZ hK fun hE hZ => ?_; clear hK
       refine S s<|nzw 16 q (lB 1000 · u35 q) fun a s => ?_
       obtain ⟨sK, F3, qc⟩ := SlR.elemX (s.ft 105 q) e0
       refine S s<|nzw 18 q (eL 8 o0 · u35 F3 (lt_of_get e0) q)<|nzw 19 q (pF 2 · u94 q) fun a s => ?_
       obtain ⟨D8, G9, nD, s7, q6⟩ := (SlR.again (s.ft 105 q) e0 F3)
       obtain ⟨hv, lA, hx, lE, hy, lF, hz, lG, rfl, dk, rK, rL, dl, dm, dn⟩ := RLexDecl.open s7
       refine S s<|nsw 503 dk<|nsw 504 dl<|nsw 505 dm<|nsw 506 dn<|nzw 20 q (lD [_, _, _, _, _, _] 2 · D8 G9 q6 u62 q) fun a s => ?_
       refine n_1 21 s (by kernel_rfl) q ⟨_, _, _, q, q, q, q⟩ (l_buildDense (sz := 6) s 2121 q q q u33 q q q q q q q fun h5 a w X2 hK s => ?_)
       have pg := NewA.lit hZ X2
       clear X2
       refine gk hE hZ hK fun hE hZ => ?_; clear hK
       replace s := s.add 507 (rdF RDef (cellsOfL [.agg #[_, _, _, _, _, _]]) ([a0.Def])) (RdAll.cons (by exact (RDef.mk' (x := a0.Def) (by omega) (by omega) (s.ft 504 q) (s.ft 505 q) (s.ft 506 q))) (rN))
       replace s := s.add 508 (rdF RDef (cellsOfL [.agg #[_, _, _, _, _, _]]) ([b0.Def])) (RdAll.cons (by exact (RDef.mk' (x := b0.Def) (by omega) (by omega) (s.ft 480 q) (s.ft 481 q) (s.ft 482 q))) (rN))
       have hT := s
       replace hT := hT.fz (R := RDef) (kk := 2121) [1000, 1001, 2128] 509 q q (hT.ft 507 q) q
       replace hT := hT.fz (R := RDef) (kk := 2128) [1000, 1001] 510 q q (hT.ft 508 q) q
       refine nC 29 s q q func49 (c_r21_sameDefs n _ _ hT.lt [a0.Def] (some ⟨h5, 0, none⟩) (1) (hT.ft 509 q) [b0.Def] (some ⟨g5, 0, none⟩) (1) (hT.ft 510 q) _ j0) fun tC a w hK hp s => ?_
       refine gk hE hZ hK fun hE hZ => ?_; clear hK
       obtain rfl := hp
       refine S s<|nzw 30 q (y_not · q)<|nzw 31 q (pO · q q) fun a s => ?_
       refine n_end (by kernel_rfl) ?_; clear hR hZ hE
       apply pN
       exact ⟨(!(l0)), hg, (s.sb q q q)⟩
   clear s a; rintro a w ⟨H1, hg, s⟩
   subst O7
   refine c_cond s q (fun w1 => ?_) (fun w1 => ?_)
   ·replace hg := br_t hg w1
    refine S s<|vw<|aw q<|nw fun a s => ?_
    apply wp_ret
    refine p_inR ?_
    refine p_thenR ?_
    refine p_thenR ?_
    refine p_inR ?_
    refine p_thenR ?_
    obtain rfl := si hg
    exact fin1 (fn := Tryz.f50) s q (r_tmp s q) q
   replace hg := br_n hg w1
   apply wp_skip
   refine p_inN ?_
   refine S s<|pw<|lw<|mw q<|yw q (y_addN (i := o0) (j := 1) · q q (in64.2 (by omega)))<|aw q<|nw fun a s => ?_
   exact ⟨m2, Nat.lt_succ_self _, ⟨(o0 + 1), hg, (s.sb q q q)⟩⟩
  replace hg := br_f hg v1
  apply wp_exit
  refine p_then ?_
  refine p_then ?_
  refine p_in ?_
  apply pN
  exact ⟨hg, (s.sb q q q)⟩
 clear s a; rintro a w ⟨hg, s⟩
 subst M7
 refine S s<|sw<|vw<|aw q<|nw<|bw fun a s => ?_
 refine c_loop (σ := Nat) (fun m3 a w => ∃ (p0 : Nat), r21_sameLists_L2 n t_ t_' m3 p0 = some r ∧ St (cx f50 M w0) [(2, vP b3 0), (3, vP b4 0), (7, vI (((p0 : Nat) : Int)))] [(1000, Ob.box b3 B 38), (1001, Ob.box b4 C 38)] F a w) (fun m3 => m3) n ⟨(0), hg, (s.sb q q q)⟩ ?_
 clear s a; rintro m3 a w ⟨p0, hg, s⟩
 rcases m3 with _ | m3
 ·rw [r21_sameLists_L2] at hg; cases hg
 rw [r21_sameLists_L2] at hg
 refine S s<|sw<|vw<|mw q<|yw q (bF 8 · u38 q)<|yw q (lB 1000 · u36 q)<|yw q (lS · q u36)<|yw q (y_lssN (i := p0) (j := ((t_.Checks).length)) · q q)<|nw fun a s => c_dec s q (fun x1 => ?_) (fun x1 => ?_)
 ·replace hg := br_t hg x1
  have pH := SlR.mx (s.ft 108 q)
  obtain ⟨tQ, O3, hg⟩ := bind_some hg
  obtain ⟨tR, P3, hg⟩ := bind_some hg
  obtain ⟨sU, el, hg⟩ := bind_some hg
  refine S s<|kw<|pw<|sw<|bw<|sw fun a s => ?_
  refine d_plan s [] [(0, some 0), (1, some 1000), (2, some 0), (3, some 0), (4, some 0), (5, some 0), (6, some 1001), (7, some 0), (8, some 0), (9, some 0), (10, none), (11, none)] q (by kernel_rfl) (by kernel_rfl) q ?_; clear s; intro wr hZ s; have hR := s.wd
  refine S s<|qw hR q (bF 8 · u38 q)<|qw hR q (lB 1000 · u36 q)<|qw hR q (mo · q) fun a s => ?_
  obtain ⟨sL, I7, E8, H9, nE, t7, r6⟩ := SlR.elemX (s.ft 108 q) O3
  refine qt s hR q (eL 1 p0 s u36 I7 (lt_of_get O3) q) fun a s => ?_
  obtain ⟨hA, so, lH, rfl, J3⟩ := t7
  obtain rfl := J3.len
  refine S s<|nsw 513 J3<|qw hR q (lP · E8 H9 (r6 0 _ q) u25 q)<|qw hR q (bF 8 · u38 q)<|qw hR q (lB 1001 · u36 q)<|qw hR q (mo · q) fun a s => ?_
  obtain ⟨sM, J7, F8, I9, nF, u7, s6⟩ := SlR.elemX (s.ft 117 q) P3
  refine qt s hR q (eL 1 p0 s u36 J7 (lt_of_get P3) q) fun a s => ?_
  obtain ⟨hB, sp, lI, rfl, K3⟩ := u7
  obtain rfl := K3.len
  refine S s<|nsw 514 K3<|qw hR q (lP · F8 I9 (s6 0 _ q) u25 q) fun a s => ?_
  refine l_take s q q (l_call (cap := []) s q func14 q (by kernel_rfl) q q (c_r01_Same n _ _ s.lt _ _ _ (s.ft 513 q) _ _ _ (s.ft 514 q) _ el) fun tE a w hK hp s => ?_)
  refine gz hZ hK fun hZ => ?_; clear hK
  obtain rfl := hp
  refine S s<|tw q (y_not · q) fun a s => ?_
  clear hR hZ
  apply pN
  refine c_cond s q (fun y1 => ?_) (fun y1 => ?_)
  ·replace hg := br_t hg y1
   refine S s<|vw<|aw q<|nw fun a s => ?_
   apply wp_ret
   refine p_inR ?_
   refine p_thenR ?_
   refine p_thenR ?_
   refine p_inR ?_
   refine p_thenR ?_
   obtain rfl := si hg
   exact fin1 (fn := Tryz.f50) s q (r_tmp s q) q
  replace hg := br_n hg y1
  apply wp_skip
  refine p_inN ?_
  refine S s<|pw<|lw<|mw q<|yw q (y_addN (i := p0) (j := 1) · q q (in64.2 (by omega)))<|aw q<|nw fun a s => ?_
  exact ⟨m3, Nat.lt_succ_self _, ⟨(p0 + 1), hg, (s.sb q q q)⟩⟩
 replace hg := br_f hg x1
 apply wp_exit
 refine p_then ?_
 refine p_then ?_
 refine p_in ?_
 refine S s<|pw<|vw<|aw q<|nw fun a s => ?_
 apply wp_ret
 obtain rfl := si hg
 exact fin1 (fn := Tryz.f50) s q (r_tmp s q) q
end Go.Proofs.YtbhjplflnkidgaaGreat

