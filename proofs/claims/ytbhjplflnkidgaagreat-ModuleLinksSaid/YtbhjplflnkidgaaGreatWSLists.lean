/- Chapter 22: a walk -/
import Derived.Test.YtbhjplflnkidgaaGreatAU
import Derived.Test.YtbhjplflnkidgaaGreatW3
namespace Go.Proofs.YtbhjplflnkidgaaGreat
open Go.Gl Go.RowKit Tryz
set_option linter.unusedVariables false
set_option linter.unusedSimpArgs false
set_option maxRecDepth 4000
set_option maxHeartbeats 1000000
theorem c_r21_sameLists (n : Nat) (M : Bs) (w0 : World) (hM : bM M w0) (t_ : Module) (r0 : OA) (L0 : Nat) (s0 : OA) (M0 : Nat) (t0 : OA) (O0 : Nat) (u0 : OA) (P0 : Nat) (v0 : OA) (Q0 : Nat) (x0 : OA) (R0 : Nat) (y0 : OA) (S0 : Nat) (z0 : OA) (T0 : Nat) (q0 : OA) (K0 : Nat) (u6 : (t_.Name).length ≤ 9223372036854775807) (i3 : sR Rep.str M w0 r0 L0 t_.Imports) (j3 : sR RTypeDecl M w0 s0 M0 t_.Types) (k3 : sR RDef M w0 t0 O0 t_.Templates) (l3 : sR REntryDecl M w0 u0 P0 t_.Entries) (n3 : sR RLexDecl M w0 v0 Q0 t_.LexRules) (o3 : sR RDef M w0 x0 R0 t_.Rules) (p3 : sR RDef M w0 y0 S0 t_.Roots) (q3 : sR (Rep.list Rep.str) M w0 z0 T0 t_.Checks) (h3 : sR Rep.str M w0 q0 K0 t_.Drops) (t_' : Module) (C0 : OA) (V0 : Nat) (D0 : OA) (X0 : Nat) (E0 : OA) (Y0 : Nat) (F0 : OA) (Z0 : Nat) (G0 : OA) (a1 : Nat) (H0 : OA) (b1 : Nat) (I0 : OA) (c1 : Nat) (J0 : OA) (d1 : Nat) (B0 : OA) (U0 : Nat) (v6 : (t_'.Name).length ≤ 9223372036854775807) (s3 : sR Rep.str M w0 C0 V0 t_'.Imports) (t3 : sR RTypeDecl M w0 D0 X0 t_'.Types) (v3 : sR RDef M w0 E0 Y0 t_'.Templates) (w3 : sR REntryDecl M w0 F0 Z0 t_'.Entries) (x3 : sR RLexDecl M w0 G0 a1 t_'.LexRules) (y3 : sR RDef M w0 H0 b1 t_'.Rules) (z3 : sR RDef M w0 I0 c1 t_'.Roots) (B3 : sR (Rep.list Rep.str) M w0 J0 d1 t_'.Checks) (r3 : sR Rep.str M w0 B0 U0 t_'.Drops) (r : Bool) (hg : r21_sameLists n t_ t_' = some r) :
    CA Tryz.prog 50 [.agg #[vT t_.Name, sl r0 t_.Imports L0, sl s0 t_.Types M0, sl t0 t_.Templates O0, sl u0 t_.Entries P0, sl v0 t_.LexRules Q0, sl x0 t_.Rules R0, sl y0 t_.Roots S0, sl z0 t_.Checks T0, sl q0 t_.Drops K0], .agg #[vT t_'.Name, sl C0 t_'.Imports V0, sl D0 t_'.Types X0, sl E0 t_'.Templates Y0, sl F0 t_'.Entries Z0, sl G0 t_'.LexRules a1, sl H0 t_'.Rules b1, sl I0 t_'.Roots c1, sl J0 t_'.Checks d1, sl B0 t_'.Drops U0]] w0 (fun v w => v = .bool (r)) := by
 unfold r21_sameLists at hg
 refine enter M noB func50 q q hM ?_
 intro a s
 let F : Al Fact := [(101, sF Rep.str r0 L0 t_.Imports), (102, sF RTypeDecl s0 M0 t_.Types), (103, sF RDef t0 O0 t_.Templates), (104, sF REntryDecl u0 P0 t_.Entries), (105, sF RLexDecl v0 Q0 t_.LexRules), (106, sF RDef x0 R0 t_.Rules), (107, sF RDef y0 S0 t_.Roots), (108, sF (Rep.list Rep.str) z0 T0 t_.Checks), (109, sF Rep.str q0 K0 t_.Drops), (110, sF Rep.str C0 V0 (t_'.Imports)), (111, sF RTypeDecl D0 X0 (t_'.Types)), (112, sF RDef E0 Y0 (t_'.Templates)), (113, sF REntryDecl F0 Z0 (t_'.Entries)), (114, sF RLexDecl G0 a1 (t_'.LexRules)), (115, sF RDef H0 b1 (t_'.Rules)), (116, sF RDef I0 c1 (t_'.Roots)), (117, sF (Rep.list Rep.str) J0 d1 (t_'.Checks)), (118, sF Rep.str B0 U0 (t_'.Drops))]
 let B : List Value := [vT t_.Name, sl r0 t_.Imports L0, sl s0 t_.Types M0, sl t0 t_.Templates O0, sl u0 t_.Entries P0, sl v0 t_.LexRules Q0, sl x0 t_.Rules R0, sl y0 t_.Roots S0, sl z0 t_.Checks T0, sl q0 t_.Drops K0]
 let C : List Value := [vT (t_'.Name), sl C0 (t_'.Imports) V0, sl D0 (t_'.Types) X0, sl E0 (t_'.Templates) Y0, sl F0 (t_'.Entries) Z0, sl G0 (t_'.LexRules) a1, sl H0 (t_'.Rules) b1, sl I0 (t_'.Roots) c1, sl J0 (t_'.Checks) d1, sl B0 (t_'.Drops) U0]
 refine S s<|esw 101 i3<|esw 102 j3<|esw 103 k3<|esw 104 l3<|esw 105 n3<|esw 106 o3<|esw 107 p3<|esw 108 q3<|esw 109 h3<|esw 110 s3<|esw 111 t3<|esw 112 v3<|esw 113 w3<|esw 114 x3<|esw 115 y3<|esw 116 z3<|esw 117 B3<|esw 118 r3<|vw fun a s => ?_
 refine l_seq q (l_box (zs := B) s 1000 q q q q fun b3 a w hb hK s => ?_)
 refine l_seq q (l_box (zs := C) s 1001 q q q q fun b4 a w hb hK s => ?_)
 refine S s<|aw q<|nw<|sw<|sw fun a s => ?_
 obtain ⟨k5, hg, P2⟩ := zJ hg
 refine c_post (fun a w => ∃ (u1 : Bool), k5 u1 = some r ∧ St (cx f50 M w0) [(2, vP b3 0), (3, vP b4 0), (32, .bool (u1))] [(1000, Ob.box b3 B 38), (1001, Ob.box b4 C 38)] F a w) ?_ ?_
 ·rcases Decidable.em (((t_.Entries).length) ≠ ((t_'.Entries).length)) with n0 | n0
  ·have e1 := decide_eq_true n0
   replace hg := br_t hg n0
   refine S s<|lw<|yw q (bF 4 · u38 q)<|yw q (lB 1000 · u34 q)<|yw q (lS · q u34)<|yw q (bF 4 · u38 q)<|yw q (lB 1001 · u34 q)<|yw q (lS · q u34)<|yw q (fun s => yl_b (y_neqN (i := ((t_.Entries).length)) (j := ((t_'.Entries).length)) s q q) e1)<|mw q<|gw q<|gw q<|gw q<|gw q<|gw q<|gw q<|gw q<|tw_ q<|mw q<|gw q<|gw q<|gw q<|gw q<|gw q<|gw q<|gw q<|tw_ q<|nw fun a s => ?_
   exact ⟨(true), hg, (s.sb q q q)⟩
  have e1 := decide_eq_false n0
  replace hg := br_f hg n0
  rcases Decidable.em (((t_.LexRules).length) ≠ ((t_'.LexRules).length)) with p0 | p0
  ·have s1 := decide_eq_true p0
   replace hg := br_t hg p0
   refine S s<|lw<|yw q (bF 4 · u38 q)<|yw q (lB 1000 · u34 q)<|yw q (lS · q u34)<|yw q (bF 4 · u38 q)<|yw q (lB 1001 · u34 q)<|yw q (lS · q u34)<|yw q (fun s => yl_b (y_neqN (i := ((t_.Entries).length)) (j := ((t_'.Entries).length)) s q q) e1)<|mw q<|zw q (bF 5 · u38 q)<|zw q (lB 1000 · u35 q)<|zw q (lS · q u35)<|zw q (bF 5 · u38 q)<|zw q (lB 1001 · u35 q)<|zw q (lS · q u35)<|zw q (fun s => yl_b (y_neqN (i := ((t_.LexRules).length)) (j := ((t_'.LexRules).length)) s q q) s1)<|fw q<|mw q<|gw q<|gw q<|gw q<|gw q<|gw q<|gw q<|gw q<|tw_ q<|nw fun a s => ?_
   exact ⟨(true), hg, (s.sb q q q)⟩
  have s1 := decide_eq_false p0
  replace hg := br_f hg p0
  refine S s<|lw<|yw q (bF 4 · u38 q)<|yw q (lB 1000 · u34 q)<|yw q (lS · q u34)<|yw q (bF 4 · u38 q)<|yw q (lB 1001 · u34 q)<|yw q (lS · q u34)<|yw q (fun s => yl_b (y_neqN (i := ((t_.Entries).length)) (j := ((t_'.Entries).length)) s q q) e1)<|mw q<|zw q (bF 5 · u38 q)<|zw q (lB 1000 · u35 q)<|zw q (lS · q u35)<|zw q (bF 5 · u38 q)<|zw q (lB 1001 · u35 q)<|zw q (lS · q u35)<|zw q (fun s => yl_b (y_neqN (i := ((t_.LexRules).length)) (j := ((t_'.LexRules).length)) s q q) s1)<|fw q<|mw q<|zw q (bF 8 · u38 q)<|zw q (lB 1000 · u36 q)<|zw q (lS · q u36)<|zw q (bF 8 · u38 q)<|zw q (lB 1001 · u36 q)<|zw q (lS · q u36)<|zw q (y_neqN (i := ((t_.Checks).length)) (j := ((t_'.Checks).length)) · q q)<|fw q<|nw fun a s => ?_
  exact ⟨(decide (((t_.Checks).length) ≠ ((t_'.Checks).length))), hg, (s.sb q q q)⟩
 clear s a; rintro a w ⟨u1, hg, s⟩
 subst P2
 refine c_cond s q (fun n1 => ?_) (fun n1 => ?_)
 ·replace hg := br_t hg n1
  refine S s<|vw<|aw q<|nw fun a s => ?_
  apply wp_ret
  refine p_thenR ?_
  obtain rfl := si hg
  exact fT f50 s q q q
 replace hg := br_n hg n1
 refine S s<|kw<|pw<|sw<|vw<|aw q<|nw fun a s => ?_
 obtain ⟨g2, hg, M2⟩ := zJ hg
 refine c_post (fun a w => g2 = some r ∧ St (cx f50 M w0) [(2, vP b3 0), (3, vP b4 0)] [(1000, Ob.box b3 B 38), (1001, Ob.box b4 C 38)] F a w) ?_ ?_
 ·apply wp_block
  refine c_loop (σ := Nat) (fun m1 a w => ∃ (a0 : Nat), r21_sameLists_L0 n t_ t_' g2 m1 a0 = some r ∧ St (cx f50 M w0) [(2, vP b3 0), (3, vP b4 0), (5, vI (((a0 : Nat) : Int)))] [(1000, Ob.box b3 B 38), (1001, Ob.box b4 C 38)] F a w) (fun m1 => m1) n ⟨(0), hg, (s.sb q q q)⟩ ?_
  clear s a; rintro m1 a w ⟨a0, hg, s⟩
  rcases m1 with _ | m1
  ·rw [r21_sameLists_L0] at hg; cases hg
  rw [r21_sameLists_L0] at hg
  refine S s<|sw<|vw<|mw q<|yw q (bF 4 · u38 q)<|yw q (lB 1000 · u34 q)<|yw q (lS · q u34)<|yw q (y_lssN (i := a0) (j := ((t_.Entries).length)) · q q)<|nw fun a s => c_dec s q (fun i1 => ?_) (fun i1 => ?_)
  ·replace hg := br_t hg i1
   have k6 := SlR.mx (s.ft 104 q)
   refine S s<|kw<|pw<|sw<|bw<|sw fun a s => ?_
   obtain ⟨n4, hg, O2⟩ := zJ hg
   refine c_post (fun a w => ∃ (t1 : Bool), n4 t1 = some r ∧ St (cx f50 M w0) [(2, vP b3 0), (3, vP b4 0), (5, vI (((a0 : Nat) : Int))), (71, .bool (t1))] [(1000, Ob.box b3 B 38), (1001, Ob.box b4 C 38)] F a w) ?_ ?_
   ·obtain ⟨i0, d0, hg⟩ := zB hg
    obtain ⟨j0, e0, hg⟩ := zB hg
    obtain ⟨p4, Z1, hg⟩ := zB hg
    rcases Bool.eq_false_or_eq_true (!(p4)) with m0 | m0
    ·replace hg := br_t hg m0
     refine d_steps s [] q ?_; clear s; intro wr hZ s; have hR := s.wd; have hE := fun g => Ext.init hR g
     refine S s<|nqw 0 0 hR q (bF 4 · u38 q)<|nqw 1 1000 hR q (lB 1000 · u34 q)<|nqw 2 0 hR q (mo · q) fun a s => ?_
     obtain ⟨S6, J1, m6⟩ := SlR.elemX (s.ft 104 q) d0
     refine S s<|nqw 3 0 hR q (eL 7 a0 · u34 J1 (lt_of_get d0) q)<|nqw 4 0 hR q (pF 0 · u89 q) fun a s => ?_
     obtain ⟨U2, c3, R5, C2, v2⟩ := (SlR.again (s.ft 104 q) d0 J1)
     obtain ⟨t4, g5, v4, h5, w4, i5, x4, j5, rfl, C3, w6, x6, D3, E3, F3⟩ := REntryDecl.open C2
     refine S s<|nsw 127 C3<|nsw 128 D3<|nsw 129 E3<|nsw 130 F3<|nqw 5 0 hR q (lP · U2 c3 (v2 0 _ q) u25 q)<|nqw 6 0 hR q (bF 4 · u38 q)<|nqw 7 1001 hR q (lB 1001 · u34 q)<|nqw 8 0 hR q (mo · q) fun a s => ?_
     obtain ⟨T6, K1, n6⟩ := SlR.elemX (s.ft 113 q) e0
     refine S s<|nqw 9 0 hR q (eL 7 a0 · u34 K1 (lt_of_get e0) q)<|nqw 10 0 hR q (pF 0 · u89 q) fun a s => ?_
     obtain ⟨V2, d3, S5, D2, w2⟩ := (SlR.again (s.ft 113 q) e0 K1)
     obtain ⟨y4, l5, z4, m5, B4, n5, C4, o5, rfl, G3, y6, z6, H3, I3, J3⟩ := REntryDecl.open D2
     refine S s<|nsw 131 G3<|nsw 132 H3<|nsw 133 I3<|nsw 134 J3<|nqw 11 0 hR q (lP · V2 d3 (w2 0 _ q) u25 q) fun a s => ?_
     refine nC 12 s q q func14 (c_r01_Same n _ _ s.lt _ _ _ (s.ft 127 q) _ _ _ (s.ft 131 q) _ Z1) fun e7 a w hK hp s => ?_
     refine gA hE hZ hK fun hE hZ => ?_; clear hK
     obtain rfl := hp
     refine S s<|nzw 13 q (fun s => yl_b (y_not s q) m0)<|nzw 14 q (mo · q)<|nfw 15 (hE 0) q<|nfw 16 (hE 0) q<|nfw 17 (hE 0) q<|nfw 18 (hE 0) q<|nfw 19 (hE 0) q<|nfw 20 (hE 0) q<|nfw 21 (hE 0) q<|nfw 22 (hE 0) q<|nfw 23 (hE 0) q<|npw 24 q<|npw 25 q<|npw 26 q<|npw 27 q<|npw 28 q<|npw 29 q<|npw 30 q<|nzw 31 q (pT · q q) fun a s => ?_
     refine n_end (by kernel_rfl) ?_; clear hR hZ hE
     apply pN
     exact ⟨(true), hg, (s.sb q q q)⟩
    replace hg := br_n hg m0
    obtain ⟨i2, a2, hg⟩ := zB hg
    refine d_steps s [] q ?_; clear s; intro wr hZ s; have hR := s.wd; have hE := fun g => Ext.init hR g
    refine S s<|nqw 0 0 hR q (bF 4 · u38 q)<|nqw 1 1000 hR q (lB 1000 · u34 q)<|nqw 2 0 hR q (mo · q) fun a s => ?_
    obtain ⟨U6, o1, o6⟩ := SlR.elemX (s.ft 104 q) d0
    refine S s<|nqw 3 0 hR q (eL 7 a0 · u34 o1 (lt_of_get d0) q)<|nqw 4 0 hR q (pF 0 · u89 q) fun a s => ?_
    obtain ⟨O1, S1, T5, E2, F1⟩ := (SlR.again (s.ft 104 q) d0 o1)
    obtain ⟨D4, p5, E4, q5, F4, r5, G4, s5, rfl, K3, B6, C6, L3, M3, O3⟩ := REntryDecl.open E2
    refine S s<|nsw 147 K3<|nsw 148 L3<|nsw 149 M3<|nsw 150 O3<|nqw 5 0 hR q (lP · O1 S1 (F1 0 _ q) u25 q)<|nqw 6 0 hR q (bF 4 · u38 q)<|nqw 7 1001 hR q (lB 1001 · u34 q)<|nqw 8 0 hR q (mo · q) fun a s => ?_
    obtain ⟨V6, p1, p6⟩ := SlR.elemX (s.ft 113 q) e0
    refine S s<|nqw 9 0 hR q (eL 7 a0 · u34 p1 (lt_of_get e0) q)<|nqw 10 0 hR q (pF 0 · u89 q) fun a s => ?_
    obtain ⟨P1, T1, U5, F2, G1⟩ := (SlR.again (s.ft 113 q) e0 p1)
    obtain ⟨H4, t5, I4, u5, J4, v5, K4, w5, rfl, P3, D6, E6, Q3, R3, S3⟩ := REntryDecl.open F2
    refine S s<|nsw 151 P3<|nsw 152 Q3<|nsw 153 R3<|nsw 154 S3<|nqw 11 0 hR q (lP · P1 T1 (G1 0 _ q) u25 q) fun a s => ?_
    refine nC 12 s q q func14 (c_r01_Same n _ _ s.lt _ _ _ (s.ft 147 q) _ _ _ (s.ft 151 q) _ Z1) fun g7 a w hK hp s => ?_
    refine gA hE hZ hK fun hE hZ => ?_; clear hK
    obtain rfl := hp
    refine S s<|nzw 13 q (fun s => yl_b (y_not s q) m0)<|nzw 14 q (mo · q)<|new 15 (hE 0) q (fun w' s => y_boxField (o' := 4) s q u38 q q q)<|nmw 16 1000 hR hE q (lB 1000 · u34 q)<|new 17 (hE 0) q (fun w' s => y_move s q)<|new 18 (hE 0) q (fun w' s => y_elem (sz := 7) (i := a0) s q q u34 q o1 q (lt_of_get d0))<|new 19 (hE 0) q (fun w' s => y_ptrField (o' := 1) s q u89 q q q)<|nmw 20 0 hR hE q (lD [_, _, _, _, _, _] 1 · O1 S1 F1 u62 q)<|new 22 (hE 0) q (fun w' s => y_boxField (o' := 4) s q u38 q q q)<|nmw 23 1001 hR hE q (lB 1001 · u34 q)<|new 24 (hE 0) q (fun w' s => y_move s q)<|new 25 (hE 0) q (fun w' s => y_elem (sz := 7) (i := a0) s q q u34 q p1 q (lt_of_get e0))<|new 26 (hE 0) q (fun w' s => y_ptrField (o' := 1) s q u89 q q q)<|nmw 27 0 hR hE q (lD [_, _, _, _, _, _] 1 · P1 T1 G1 u62 q) fun a s => ?_
    refine n_2 21 28 s (by kernel_rfl) q (rR q) q (rR q) ?_ ?_
    ·refine l_buildDense (sz := 6) s 1621 q q q u33 q q q q q q q fun n2 a w y1 hK s => ?_
     have c6 := NewA.lit hZ y1
     clear y1
     refine gA hE hZ hK fun hE hZ => ?_; clear hK
     refine n_1 28 s (by kernel_rfl) q (rR q) (l_buildDense (sz := 6) s 1628 q q q u33 q q q q q q q fun o2 a w z1 hK s => ?_)
     have d6 := NewA.lit hZ z1
     clear z1
     refine gA hE hZ hK fun hE hZ => ?_; clear hK
     replace s := s.add 155 (rdF RDef (cellsOfL [.agg #[_, _, _, _, _, _]]) ([i0.Def])) (RdAll.cons (by exact (RDef.mk' (x := i0.Def) (by omega) (by omega) (s.ft 148 q) (s.ft 149 q) (s.ft 150 q))) (rN))
     replace s := s.add 156 (rdF RDef (cellsOfL [.agg #[_, _, _, _, _, _]]) ([j0.Def])) (RdAll.cons (by exact (RDef.mk' (x := j0.Def) (by omega) (by omega) (s.ft 152 q) (s.ft 153 q) (s.ft 154 q))) (rN))
     have hT := s
     replace hT := hT.fz (R := RDef) (kk := 1621) [1000, 1001, 1628] 157 q q (hT.ft 155 q) q
     replace hT := hT.fz (R := RDef) (kk := 1628) [1000, 1001] 158 q q (hT.ft 156 q) q
     refine nC 29 s q q func49 (c_r21_sameDefs n _ _ hT.lt [i0.Def] (some ⟨n2, 0, none⟩) (1) (hT.ft 157 q) [j0.Def] (some ⟨o2, 0, none⟩) (1) (hT.ft 158 q) _ a2) fun h7 a w hK hp s => ?_
     refine gA hE hZ hK fun hE hZ => ?_; clear hK
     obtain rfl := hp
     refine S s<|nzw 30 q (y_not · q)<|nzw 31 q (pO · q q) fun a s => ?_
     refine n_end (by kernel_rfl) ?_; clear hR hZ hE
     apply pN
     exact ⟨(!(i2)), hg, (s.sb q q q)⟩
    ·refine l_buildDense (sz := 6) s 1628 q q q u33 q q q q q q q fun p2 a w B1 hK s => ?_
     have e6 := NewA.lit hZ B1
     clear B1
     refine gA hE hZ hK fun hE hZ => ?_; clear hK
     refine n_1 21 s (by kernel_rfl) q (rR q) (l_buildDense (sz := 6) s 1621 q q q u33 q q q q q q q fun q2 a w C1 hK s => ?_)
     have g6 := NewA.lit hZ C1
     clear C1
     refine gA hE hZ hK fun hE hZ => ?_; clear hK
     replace s := s.add 159 (rdF RDef (cellsOfL [.agg #[_, _, _, _, _, _]]) ([i0.Def])) (RdAll.cons (by exact (RDef.mk' (x := i0.Def) (by omega) (by omega) (s.ft 148 q) (s.ft 149 q) (s.ft 150 q))) (rN))
     replace s := s.add 160 (rdF RDef (cellsOfL [.agg #[_, _, _, _, _, _]]) ([j0.Def])) (RdAll.cons (by exact (RDef.mk' (x := j0.Def) (by omega) (by omega) (s.ft 152 q) (s.ft 153 q) (s.ft 154 q))) (rN))
     have hT := s
     replace hT := hT.fz (R := RDef) (kk := 1621) [1000, 1001, 1628] 161 q q (hT.ft 159 q) q
     replace hT := hT.fz (R := RDef) (kk := 1628) [1000, 1001] 162 q q (hT.ft 160 q) q
     refine nC 29 s q q func49 (c_r21_sameDefs n _ _ hT.lt [i0.Def] (some ⟨q2, 0, none⟩) (1) (hT.ft 161 q) [j0.Def] (some ⟨p2, 0, none⟩) (1) (hT.ft 162 q) _ a2) fun i7 a w hK hp s => ?_
     refine gA hE hZ hK fun hE hZ => ?_; clear hK
     obtain rfl := hp
     refine S s<|nzw 30 q (y_not · q)<|nzw 31 q (pO · q q) fun a s => ?_
     refine n_end (by kernel_rfl) ?_; clear hR hZ hE
     apply pN
     exact ⟨(!(i2)), hg, (s.sb q q q)⟩
   clear s a; rintro a w ⟨t1, hg, s⟩
   subst O2
   refine c_cond s q (fun k1 => ?_) (fun k1 => ?_)
   ·replace hg := br_t hg k1
    refine S s<|vw<|aw q<|nw fun a s => ?_
    apply wp_ret
    refine p_inR ?_
    refine p_thenR ?_
    refine p_thenR ?_
    refine p_inR ?_
    refine p_thenR ?_
    obtain rfl := si hg
    exact fT f50 s q q q
   replace hg := br_n hg k1
   apply wp_skip
   refine p_inN ?_
   refine S s<|pw<|lw<|mw q<|yw q (y_addN (i := a0) (j := 1) · q q (in64.2 (by omega)))<|aw q<|nw fun a s => ?_
   exact ⟨m1, Nat.lt_succ_self _, ⟨(a0 + 1), hg, (s.sb q q q)⟩⟩
  replace hg := br_f hg i1
  apply wp_exit
  refine p_then ?_
  refine p_then ?_
  refine p_in ?_
  apply pN
  exact ⟨hg, (s.sb q q q)⟩
 clear s a; rintro a w ⟨hg, s⟩
 subst M2
 refine S s<|sw<|vw<|aw q<|nw fun a s => ?_
 obtain ⟨h2, hg, Q2⟩ := zJ hg
 refine c_post (fun a w => h2 = some r ∧ St (cx f50 M w0) [(2, vP b3 0), (3, vP b4 0)] [(1000, Ob.box b3 B 38), (1001, Ob.box b4 C 38)] F a w) ?_ ?_
 ·apply wp_block
  refine c_loop (σ := Nat) (fun m2 a w => ∃ (b0 : Nat), r21_sameLists_L1 n t_ t_' h2 m2 b0 = some r ∧ St (cx f50 M w0) [(2, vP b3 0), (3, vP b4 0), (6, vI (((b0 : Nat) : Int)))] [(1000, Ob.box b3 B 38), (1001, Ob.box b4 C 38)] F a w) (fun m2 => m2) n ⟨(0), hg, (s.sb q q q)⟩ ?_
  clear s a; rintro m2 a w ⟨b0, hg, s⟩
  rcases m2 with _ | m2
  ·rw [r21_sameLists_L1] at hg; cases hg
  rw [r21_sameLists_L1] at hg
  refine S s<|sw<|vw<|mw q<|yw q (bF 5 · u38 q)<|yw q (lB 1000 · u35 q)<|yw q (lS · q u35)<|yw q (y_lssN (i := b0) (j := ((t_.LexRules).length)) · q q)<|nw fun a s => c_dec s q (fun l1 => ?_) (fun l1 => ?_)
  ·replace hg := br_t hg l1
   have l6 := SlR.mx (s.ft 105 q)
   refine S s<|kw<|pw<|sw<|bw<|sw fun a s => ?_
   obtain ⟨o4, hg, R2⟩ := zJ hg
   refine c_post (fun a w => ∃ (v1 : Bool), o4 v1 = some r ∧ St (cx f50 M w0) [(2, vP b3 0), (3, vP b4 0), (6, vI (((b0 : Nat) : Int))), (110, .bool (v1))] [(1000, Ob.box b3 B 38), (1001, Ob.box b4 C 38)] F a w) ?_ ?_
   ·obtain ⟨k0, g0, hg⟩ := zB hg
    obtain ⟨l0, h0, hg⟩ := zB hg
    obtain ⟨q4, b2, hg⟩ := zB hg
    rcases Bool.eq_false_or_eq_true (!(q4)) with o0 | o0
    ·replace hg := br_t hg o0
     refine d_steps s [] q ?_; clear s; intro wr hZ s; have hR := s.wd; have hE := fun g => Ext.init hR g
     refine S s<|nqw 0 0 hR q (bF 5 · u38 q)<|nqw 1 1000 hR q (lB 1000 · u35 q)<|nqw 2 0 hR q (mo · q) fun a s => ?_
     obtain ⟨X6, L1, q6⟩ := SlR.elemX (s.ft 105 q) g0
     refine S s<|nqw 3 0 hR q (eL 8 b0 · u35 L1 (lt_of_get g0) q)<|nqw 4 0 hR q (pF 0 · u94 q) fun a s => ?_
     obtain ⟨X2, e3, V5, G2, x2⟩ := (SlR.again (s.ft 105 q) g0 L1)
     obtain ⟨L4, x5, M4, y5, O4, z5, P4, B5, rfl, T3, F6, G6, U3, V3, X3⟩ := RLexDecl.open G2
     refine S s<|nsw 171 T3<|nsw 172 U3<|nsw 173 V3<|nsw 174 X3<|nqw 5 0 hR q (lD [_, _] 0 · X2 e3 x2 u92 q)<|nqw 6 0 hR q (bF 5 · u38 q)<|nqw 7 1001 hR q (lB 1001 · u35 q)<|nqw 8 0 hR q (mo · q) fun a s => ?_
     obtain ⟨Y6, M1, r6⟩ := SlR.elemX (s.ft 114 q) h0
     refine S s<|nqw 9 0 hR q (eL 8 b0 · u35 M1 (lt_of_get h0) q)<|nqw 10 0 hR q (pF 0 · u94 q) fun a s => ?_
     obtain ⟨Y2, g3, X5, H2, y2⟩ := (SlR.again (s.ft 114 q) h0 M1)
     obtain ⟨Q4, C5, R4, D5, S4, E5, T4, F5, rfl, Y3, H6, I6, Z3, a4, c4⟩ := RLexDecl.open H2
     refine S s<|nsw 175 Y3<|nsw 176 Z3<|nsw 177 a4<|nsw 178 c4<|nqw 11 0 hR q (lD [_, _] 0 · Y2 g3 y2 u92 q) fun a s => ?_
     refine nC 12 s q q func72 (c_r21_SameAffix n _ _ s.lt _ _ _ (s.ft 171 q) _ _ _ (s.ft 175 q) _ b2) fun j7 a w hK hp s => ?_
     refine gA hE hZ hK fun hE hZ => ?_; clear hK
     obtain rfl := hp
     refine S s<|nzw 13 q (fun s => yl_b (y_not s q) o0)<|nzw 14 q (mo · q)<|nfw 15 (hE 0) q<|nfw 16 (hE 0) q<|nfw 17 (hE 0) q<|nfw 18 (hE 0) q<|nfw 19 (hE 0) q<|nfw 20 (hE 0) q<|nfw 21 (hE 0) q<|nfw 22 (hE 0) q<|nfw 23 (hE 0) q<|npw 24 q<|npw 25 q<|npw 26 q<|npw 27 q<|npw 28 q<|npw 29 q<|npw 30 q<|nzw 31 q (pT · q q) fun a s => ?_
     refine n_end (by kernel_rfl) ?_; clear hR hZ hE
     apply pN
     exact ⟨(true), hg, (s.sb q q q)⟩
    replace hg := br_n hg o0
    obtain ⟨j2, c2, hg⟩ := zB hg
    refine d_steps s [] q ?_; clear s; intro wr hZ s; have hR := s.wd; have hE := fun g => Ext.init hR g
    refine S s<|nqw 0 0 hR q (bF 5 · u38 q)<|nqw 1 1000 hR q (lB 1000 · u35 q)<|nqw 2 0 hR q (mo · q) fun a s => ?_
    obtain ⟨Z6, q1, s6⟩ := SlR.elemX (s.ft 105 q) g0
    refine S s<|nqw 3 0 hR q (eL 8 b0 · u35 q1 (lt_of_get g0) q)<|nqw 4 0 hR q (pF 0 · u94 q) fun a s => ?_
    obtain ⟨Q1, U1, Y5, I2, H1⟩ := (SlR.again (s.ft 105 q) g0 q1)
    obtain ⟨U4, G5, V4, H5, X4, I5, Y4, J5, rfl, d4, J6, K6, e4, g4, h4⟩ := RLexDecl.open I2
    refine S s<|nsw 191 d4<|nsw 192 e4<|nsw 193 g4<|nsw 194 h4<|nqw 5 0 hR q (lD [_, _] 0 · Q1 U1 H1 u92 q)<|nqw 6 0 hR q (bF 5 · u38 q)<|nqw 7 1001 hR q (lB 1001 · u35 q)<|nqw 8 0 hR q (mo · q) fun a s => ?_
    obtain ⟨a7, r1, t6⟩ := SlR.elemX (s.ft 114 q) h0
    refine S s<|nqw 9 0 hR q (eL 8 b0 · u35 r1 (lt_of_get h0) q)<|nqw 10 0 hR q (pF 0 · u94 q) fun a s => ?_
    obtain ⟨R1, V1, Z5, J2, I1⟩ := (SlR.again (s.ft 114 q) h0 r1)
    obtain ⟨Z4, K5, a5, L5, b5, M5, c5, O5, rfl, i4, L6, M6, j4, k4, l4⟩ := RLexDecl.open J2
    refine S s<|nsw 195 i4<|nsw 196 j4<|nsw 197 k4<|nsw 198 l4<|nqw 11 0 hR q (lD [_, _] 0 · R1 V1 I1 u92 q) fun a s => ?_
    refine nC 12 s q q func72 (c_r21_SameAffix n _ _ s.lt _ _ _ (s.ft 191 q) _ _ _ (s.ft 195 q) _ b2) fun k7 a w hK hp s => ?_
    refine gA hE hZ hK fun hE hZ => ?_; clear hK
    obtain rfl := hp
    refine S s<|nzw 13 q (fun s => yl_b (y_not s q) o0)<|nzw 14 q (mo · q)<|new 15 (hE 0) q (fun w' s => y_boxField (o' := 5) s q u38 q q q)<|nmw 16 1000 hR hE q (lB 1000 · u35 q)<|new 17 (hE 0) q (fun w' s => y_move s q)<|new 18 (hE 0) q (fun w' s => y_elem (sz := 8) (i := b0) s q q u35 q q1 q (lt_of_get g0))<|new 19 (hE 0) q (fun w' s => y_ptrField (o' := 2) s q u94 q q q)<|nmw 20 0 hR hE q (lD [_, _, _, _, _, _] 2 · Q1 U1 H1 u62 q)<|new 22 (hE 0) q (fun w' s => y_boxField (o' := 5) s q u38 q q q)<|nmw 23 1001 hR hE q (lB 1001 · u35 q)<|new 24 (hE 0) q (fun w' s => y_move s q)<|new 25 (hE 0) q (fun w' s => y_elem (sz := 8) (i := b0) s q q u35 q r1 q (lt_of_get h0))<|new 26 (hE 0) q (fun w' s => y_ptrField (o' := 2) s q u94 q q q)<|nmw 27 0 hR hE q (lD [_, _, _, _, _, _] 2 · R1 V1 I1 u62 q) fun a s => ?_
    refine n_2 21 28 s (by kernel_rfl) q (rR q) q (rR q) ?_ ?_
    ·refine l_buildDense (sz := 6) s 2121 q q q u33 q q q q q q q fun r2 a w D1 hK s => ?_
     have h6 := NewA.lit hZ D1
     clear D1
     refine gA hE hZ hK fun hE hZ => ?_; clear hK
     refine n_1 28 s (by kernel_rfl) q (rR q) (l_buildDense (sz := 6) s 2128 q q q u33 q q q q q q q fun s2 a w E1 hK s => ?_)
     have i6 := NewA.lit hZ E1
     clear E1
     refine gA hE hZ hK fun hE hZ => ?_; clear hK
     replace s := s.add 199 (rdF RDef (cellsOfL [.agg #[_, _, _, _, _, _]]) ([k0.Def])) (RdAll.cons (by exact (RDef.mk' (x := k0.Def) (by omega) (by omega) (s.ft 192 q) (s.ft 193 q) (s.ft 194 q))) (rN))
     replace s := s.add 200 (rdF RDef (cellsOfL [.agg #[_, _, _, _, _, _]]) ([l0.Def])) (RdAll.cons (by exact (RDef.mk' (x := l0.Def) (by omega) (by omega) (s.ft 196 q) (s.ft 197 q) (s.ft 198 q))) (rN))
     have hT := s
     replace hT := hT.fz (R := RDef) (kk := 2121) [1000, 1001, 2128] 201 q q (hT.ft 199 q) q
     replace hT := hT.fz (R := RDef) (kk := 2128) [1000, 1001] 202 q q (hT.ft 200 q) q
     refine nC 29 s q q func49 (c_r21_sameDefs n _ _ hT.lt [k0.Def] (some ⟨r2, 0, none⟩) (1) (hT.ft 201 q) [l0.Def] (some ⟨s2, 0, none⟩) (1) (hT.ft 202 q) _ c2) fun l7 a w hK hp s => ?_
     refine gA hE hZ hK fun hE hZ => ?_; clear hK
     obtain rfl := hp
     refine S s<|nzw 30 q (y_not · q)<|nzw 31 q (pO · q q) fun a s => ?_
     refine n_end (by kernel_rfl) ?_; clear hR hZ hE
     apply pN
     exact ⟨(!(j2)), hg, (s.sb q q q)⟩
    ·refine l_buildDense (sz := 6) s 2128 q q q u33 q q q q q q q fun k2 a w w1 hK s => ?_
     have a6 := NewA.lit hZ w1
     clear w1
     refine gA hE hZ hK fun hE hZ => ?_; clear hK
     refine n_1 21 s (by kernel_rfl) q (rR q) (l_buildDense (sz := 6) s 2121 q q q u33 q q q q q q q fun l2 a w x1 hK s => ?_)
     have b6 := NewA.lit hZ x1
     clear x1
     refine gA hE hZ hK fun hE hZ => ?_; clear hK
     replace s := s.add 203 (rdF RDef (cellsOfL [.agg #[_, _, _, _, _, _]]) ([k0.Def])) (RdAll.cons (by exact (RDef.mk' (x := k0.Def) (by omega) (by omega) (s.ft 192 q) (s.ft 193 q) (s.ft 194 q))) (rN))
     replace s := s.add 204 (rdF RDef (cellsOfL [.agg #[_, _, _, _, _, _]]) ([l0.Def])) (RdAll.cons (by exact (RDef.mk' (x := l0.Def) (by omega) (by omega) (s.ft 196 q) (s.ft 197 q) (s.ft 198 q))) (rN))
     have hT := s
     replace hT := hT.fz (R := RDef) (kk := 2121) [1000, 1001, 2128] 205 q q (hT.ft 203 q) q
     replace hT := hT.fz (R := RDef) (kk := 2128) [1000, 1001] 206 q q (hT.ft 204 q) q
     refine nC 29 s q q func49 (c_r21_sameDefs n _ _ hT.lt [k0.Def] (some ⟨l2, 0, none⟩) (1) (hT.ft 205 q) [l0.Def] (some ⟨k2, 0, none⟩) (1) (hT.ft 206 q) _ c2) fun c7 a w hK hp s => ?_
     refine gA hE hZ hK fun hE hZ => ?_; clear hK
     obtain rfl := hp
     refine S s<|nzw 30 q (y_not · q)<|nzw 31 q (pO · q q) fun a s => ?_
     refine n_end (by kernel_rfl) ?_; clear hR hZ hE
     apply pN
     exact ⟨(!(j2)), hg, (s.sb q q q)⟩
   clear s a; rintro a w ⟨v1, hg, s⟩
   subst R2
   refine c_cond s q (fun g1 => ?_) (fun g1 => ?_)
   ·replace hg := br_t hg g1
    refine S s<|vw<|aw q<|nw fun a s => ?_
    apply wp_ret
    refine p_inR ?_
    refine p_thenR ?_
    refine p_thenR ?_
    refine p_inR ?_
    refine p_thenR ?_
    obtain rfl := si hg
    exact fT f50 s q q q
   replace hg := br_n hg g1
   apply wp_skip
   refine p_inN ?_
   refine S s<|pw<|lw<|mw q<|yw q (y_addN (i := b0) (j := 1) · q q (in64.2 (by omega)))<|aw q<|nw fun a s => ?_
   exact ⟨m2, Nat.lt_succ_self _, ⟨(b0 + 1), hg, (s.sb q q q)⟩⟩
  replace hg := br_f hg l1
  apply wp_exit
  refine p_then ?_
  refine p_then ?_
  refine p_in ?_
  apply pN
  exact ⟨hg, (s.sb q q q)⟩
 clear s a; rintro a w ⟨hg, s⟩
 subst Q2
 refine S s<|sw<|vw<|aw q<|nw<|bw fun a s => ?_
 refine c_loop (σ := Nat) (fun m3 a w => ∃ (c0 : Nat), r21_sameLists_L2 n t_ t_' m3 c0 = some r ∧ St (cx f50 M w0) [(2, vP b3 0), (3, vP b4 0), (7, vI (((c0 : Nat) : Int)))] [(1000, Ob.box b3 B 38), (1001, Ob.box b4 C 38)] F a w) (fun m3 => m3) n ⟨(0), hg, (s.sb q q q)⟩ ?_
 clear s a; rintro m3 a w ⟨c0, hg, s⟩
 rcases m3 with _ | m3
 ·rw [r21_sameLists_L2] at hg; cases hg
 rw [r21_sameLists_L2] at hg
 refine S s<|sw<|vw<|mw q<|yw q (bF 8 · u38 q)<|yw q (lB 1000 · u36 q)<|yw q (lS · q u36)<|yw q (y_lssN (i := c0) (j := ((t_.Checks).length)) · q q)<|nw fun a s => c_dec s q (fun h1 => ?_) (fun h1 => ?_)
 ·replace hg := br_t hg h1
  have j6 := SlR.mx (s.ft 108 q)
  obtain ⟨m7, d2, hg⟩ := zB hg
  obtain ⟨n7, e2, hg⟩ := zB hg
  obtain ⟨b7, m4, hg⟩ := zB hg
  refine S s<|kw<|pw<|sw<|bw<|sw fun a s => ?_
  refine d_plan s [] [(0, some 0), (1, some 1000), (2, some 0), (3, some 0), (4, some 0), (5, some 0), (6, some 1001), (7, some 0), (8, some 0), (9, some 0), (10, none), (11, none)] q (by kernel_rfl) (by kernel_rfl) q ?_; clear s; intro wr hZ s; have hR := s.wd
  refine S s<|qw hR q (bF 8 · u38 q)<|qw hR q (lB 1000 · u36 q)<|qw hR q (mo · q) fun a s => ?_
  obtain ⟨Q6, K2, S2, Z2, P5, z2, t2⟩ := SlR.elemX (s.ft 108 q) d2
  refine qt s hR q (eL 1 c0 s u36 K2 (lt_of_get d2) q) fun a s => ?_
  obtain ⟨r4, O6, d5, rfl, X1⟩ := z2
  obtain rfl := X1.len
  refine S s<|nsw 209 X1<|qw hR q (lP · S2 Z2 (t2 0 _ q) u25 q)<|qw hR q (bF 8 · u38 q)<|qw hR q (lB 1001 · u36 q)<|qw hR q (mo · q) fun a s => ?_
  obtain ⟨R6, L2, T2, a3, Q5, B2, u2⟩ := SlR.elemX (s.ft 117 q) e2
  refine qt s hR q (eL 1 c0 s u36 L2 (lt_of_get e2) q) fun a s => ?_
  obtain ⟨s4, P6, e5, rfl, Y1⟩ := B2
  obtain rfl := Y1.len
  refine S s<|nsw 210 Y1<|qw hR q (lP · T2 a3 (u2 0 _ q) u25 q) fun a s => ?_
  refine l_take s q q (l_call (cap := []) s q func14 q (by kernel_rfl) q q (c_r01_Same n _ _ s.lt _ _ _ (s.ft 209 q) _ _ _ (s.ft 210 q) _ m4) fun d7 a w hK hp s => ?_)
  refine gz hZ hK fun hZ => ?_; clear hK
  obtain rfl := hp
  refine S s<|tw q (y_not · q) fun a s => ?_
  clear hR hZ
  apply pN
  refine c_cond s q (fun j1 => ?_) (fun j1 => ?_)
  ·replace hg := br_t hg j1
   refine S s<|vw<|aw q<|nw fun a s => ?_
   apply wp_ret
   refine p_inR ?_
   refine p_thenR ?_
   refine p_thenR ?_
   refine p_inR ?_
   refine p_thenR ?_
   obtain rfl := si hg
   exact fT f50 s q q q
  replace hg := br_n hg j1
  apply wp_skip
  refine p_inN ?_
  refine S s<|pw<|lw<|mw q<|yw q (y_addN (i := c0) (j := 1) · q q (in64.2 (by omega)))<|aw q<|nw fun a s => ?_
  exact ⟨m3, Nat.lt_succ_self _, ⟨(c0 + 1), hg, (s.sb q q q)⟩⟩
 replace hg := br_f hg h1
 apply wp_exit
 refine p_then ?_
 refine p_then ?_
 refine p_in ?_
 refine S s<|pw<|vw<|aw q<|nw fun a s => ?_
 apply wp_ret
 obtain rfl := si hg
 exact fT f50 s q q q
end Go.Proofs.YtbhjplflnkidgaaGreat
