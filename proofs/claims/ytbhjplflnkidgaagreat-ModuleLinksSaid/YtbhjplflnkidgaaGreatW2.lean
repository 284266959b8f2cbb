/- Chapter 22: the walks, part 2 -/
import Derived.Test.YtbhjplflnkidgaaGreatAU
import Derived.Test.YtbhjplflnkidgaaGreatW1
namespace Go.Proofs.YtbhjplflnkidgaaGreat
open Go.Gl Go.RowKit Tryz
set_option linter.unusedVariables false
set_option linter.unusedSimpArgs false
set_option maxRecDepth 4000
set_option maxHeartbeats 1000000
theorem c_r21_module (n : Nat) (M : Bs) (w0 : World) (hM : bM M w0) (t_ : Module) (v0 : OA) (G0 : Nat) (x0 : OA) (H0 : Nat) (y0 : OA) (I0 : Nat) (z0 : OA) (J0 : Nat) (B0 : OA) (K0 : Nat) (C0 : OA) (L0 : Nat) (D0 : OA) (M0 : Nat) (E0 : OA) (O0 : Nat) (u0 : OA) (F0 : Nat) (M5 : (t_.Name).length ≤ 9223372036854775807) (T2 : sR Rep.str M w0 v0 G0 t_.Imports) (U2 : sR RTypeDecl M w0 x0 H0 t_.Types) (V2 : sR RDef M w0 y0 I0 t_.Templates) (X2 : sR REntryDecl M w0 z0 J0 t_.Entries) (Y2 : sR RLexDecl M w0 B0 K0 t_.LexRules) (Z2 : sR RDef M w0 C0 L0 t_.Rules) (a3 : sR RDef M w0 D0 M0 t_.Roots) (b3 : sR (Rep.list Rep.str) M w0 E0 O0 t_.Checks) (S2 : sR Rep.str M w0 u0 F0 t_.Drops) (r : (List UInt8)) (hg : r21_module n t_ = some r) :
    CA Tryz.prog 54 [.agg #[vT t_.Name, sl v0 t_.Imports G0, sl x0 t_.Types H0, sl y0 t_.Templates I0, sl z0 t_.Entries J0, sl B0 t_.LexRules K0, sl C0 t_.Rules L0, sl D0 t_.Roots M0, sl E0 t_.Checks O0, sl u0 t_.Drops F0]] w0 (fun v w => v = vT r ∧ ((r).length ≤ 9223372036854775807)) := by
 unfold r21_module at hg
 refine enter M noB func54 q q hM ?_
 intro a s
 let F : Al Fact := [(101, sF Rep.str v0 G0 t_.Imports), (102, sF RTypeDecl x0 H0 t_.Types), (103, sF RDef y0 I0 t_.Templates), (104, sF REntryDecl z0 J0 t_.Entries), (105, sF RLexDecl B0 K0 t_.LexRules), (106, sF RDef C0 L0 t_.Rules), (107, sF RDef D0 M0 t_.Roots), (108, sF (Rep.list Rep.str) E0 O0 t_.Checks), (109, sF Rep.str u0 F0 t_.Drops)]
 let B : List Value := [vT t_.Name, sl v0 t_.Imports G0, sl x0 t_.Types H0, sl y0 t_.Templates I0, sl z0 t_.Entries J0, sl B0 t_.LexRules K0, sl C0 t_.Rules L0, sl D0 t_.Roots M0, sl E0 t_.Checks O0, sl u0 t_.Drops F0]
 refine S s<|esw 101 T2<|esw 102 U2<|esw 103 V2<|esw 104 X2<|esw 105 Y2<|esw 106 Z2<|esw 107 a3<|esw 108 b3<|esw 109 S2<|vw fun a s => ?_
 refine l_seq q (l_box (zs := B) s 1000 q q q q fun b2 a w hb hK s => ?_)
 obtain ⟨d2, hg⟩ := zC hg
 obtain ⟨h2, hg⟩ := zC hg
 refine S s<|aw q<|nw<|sw<|lw<|yw q (bF 0 · u38 q)<|yw q (lB 1000 · u9 q)<|yw q (y_concat · q q d2)<|yw q (y_concat · q q h2)<|aw q<|nw<|sw<|vw<|aw q<|nw fun a s => ?_
 obtain ⟨k5, hg, k2⟩ := zJ hg
 refine c_post (fun a w => ∃ (s0 : (List UInt8)), k5 s0 = some r ∧ ((s0).length ≤ 9223372036854775807) ∧ St (cx f54 M w0) [(1, vP b2 0), (3, vT s0)] [(1000, Ob.box b2 B 38)] F a w) ?_ ?_
 ·apply wp_block
  refine c_loop (σ := Nat) (fun m1 a w => ∃ (m0 : (List UInt8)) (i0 : Nat), r21_module_L0 n t_ k5 m1 m0 i0 = some r ∧ ((m0).length ≤ 9223372036854775807) ∧ St (cx f54 M w0) [(1, vP b2 0), (3, vT m0), (4, vI (((i0 : Nat) : Int)))] [(1000, Ob.box b2 B 38)] F a w) (fun m1 => m1) n ⟨(([109, 111, 100, 117, 108, 101, 32] ++ t_.Name) ++ [59, 10]), (0), hg, (by rw [List.length_append]; omega), (s.sb q q q)⟩ ?_
  clear s a; rintro m1 a w ⟨m0, i0, hg, o6, s⟩
  rcases m1 with _ | m1
  ·rw [r21_module_L0] at hg; cases hg
  rw [r21_module_L0] at hg
  refine S s<|sw<|vw<|mw q<|yw q (bF 1 · u38 q)<|yw q (lB 1000 · u25 q)<|yw q (lS · q u25)<|yw q (y_lssN (i := i0) (j := ((t_.Imports).length)) · q q)<|nw fun a s => c_dec s q (fun U0 => ?_) (fun U0 => ?_)
  ·replace hg := br_t hg U0
   have z5 := SlR.mx (s.ft 101 q)
   obtain ⟨O1, hg⟩ := zC hg
   obtain ⟨a4, d1, hg⟩ := zB hg
   obtain ⟨X1, hg⟩ := zC hg
   obtain ⟨a2, hg⟩ := zC hg
   refine S s<|kw<|pw<|sw<|bw<|lw<|mw q<|yw q (y_concat · q q O1)<|yw q (bF 1 · u38 q)<|yw q (lB 1000 · u25 q)<|mw q fun a s => ?_
   obtain ⟨H6, K1, C2, M2, u5, D1, s1⟩ := SlR.elemX (s.ft 101 q) d1
   refine qq s q (eL 1 i0 s u25 K1 (lt_of_get d1) q) fun a s => ?_
   obtain ⟨rfl, V5⟩ := D1
   refine S s<|yw q (lP · C2 M2 (s1 0 _ q) u9 q)<|yw q (y_concat · q q X1)<|yw q (y_concat · q q a2)<|aw q fun a s => ?_
   apply wO
   refine p_inN ?_
   refine S s<|pw<|lw<|mw q<|yw q (y_addN (i := i0) (j := 1) · q q (in64.2 (by omega)))<|aw q<|nw fun a s => ?_
   exact ⟨m1, Nat.lt_succ_self _, ⟨(((m0 ++ [105, 109, 112, 111, 114, 116, 32]) ++ a4) ++ [59, 10]), (i0 + 1), hg, (by rw [List.length_append]; omega), (s.sb q q q)⟩⟩
  replace hg := br_f hg U0
  apply wp_exit
  refine p_then ?_
  refine p_then ?_
  refine p_in ?_
  apply pN
  exact ⟨(m0), hg, (by omega), (s.sb q q q)⟩
 clear s a; rintro a w ⟨s0, hg, n6, s⟩
 subst k2
 refine S s<|sw<|vw<|aw q<|nw fun a s => ?_
 obtain ⟨j1, hg, c2⟩ := zJ hg
 refine c_post (fun a w => ∃ (q0 : (List UInt8)), j1 q0 = some r ∧ ((q0).length ≤ 9223372036854775807) ∧ St (cx f54 M w0) [(1, vP b2 0), (3, vT q0)] [(1000, Ob.box b2 B 38)] F a w) ?_ ?_
 ·apply wp_block
  refine c_loop (σ := Nat) (fun m2 a w => ∃ (k0 : (List UInt8)) (h0 : Nat), r21_module_L1 n t_ j1 m2 k0 h0 = some r ∧ ((k0).length ≤ 9223372036854775807) ∧ St (cx f54 M w0) [(1, vP b2 0), (3, vT k0), (5, vI (((h0 : Nat) : Int)))] [(1000, Ob.box b2 B 38)] F a w) (fun m2 => m2) n ⟨(s0), (0), hg, (by omega), (s.sb q q q)⟩ ?_
  clear s a; rintro m2 a w ⟨k0, h0, hg, j6, s⟩
  rcases m2 with _ | m2
  ·rw [r21_module_L1] at hg; cases hg
  rw [r21_module_L1] at hg
  refine S s<|sw<|vw<|mw q<|yw q (bF 2 · u38 q)<|yw q (lB 1000 · u32 q)<|yw q (lS · q u32)<|yw q (y_lssN (i := h0) (j := ((t_.Types).length)) · q q)<|nw fun a s => c_dec s q (fun R0 => ?_) (fun R0 => ?_)
  ·replace hg := br_t hg R0
   have D5 := SlR.mx (s.ft 102 q)
   obtain ⟨Y6, h1, hg⟩ := zB hg
   obtain ⟨T3, J3, hg⟩ := zB hg
   obtain ⟨e2, hg⟩ := zC hg
   refine S s<|kw<|pw<|sw<|bw<|lw<|mw q<|yw q (bF 2 · u38 q)<|yw q (lB 1000 · u32 q)<|mw q fun a s => ?_
   obtain ⟨I6, L1, D2, O2, v5, E1, t1⟩ := SlR.elemX (s.ft 102 q) h1
   refine qq s q (eL 3 h0 s u32 L1 (lt_of_get h1) q) fun a s => ?_
   obtain ⟨t4, Y4, v4, Z4, rfl, X5, q3, r3⟩ := RTypeDecl.open E1
   refine S s<|nsw 112 q3<|nsw 113 r3<|yw q (y_ldp · q D2 O2 (by simpa using t1) u49 q q) fun a s => ?_
   refine lC s q func86 (c_r21_typed n _ _ s.lt _ _ _ _ _ (by omega) (s.ft 112 q) (s.ft 113 q) _ J3) fun S6 a w hK hp s => ?_
   obtain ⟨rfl, w6⟩ := hp
   refine S s<|yw q (y_concat · q q e2)<|aw q fun a s => ?_
   apply wO
   refine p_inN ?_
   refine S s<|pw<|lw<|mw q<|yw q (y_addN (i := h0) (j := 1) · q q (in64.2 (by omega)))<|aw q<|nw fun a s => ?_
   exact ⟨m2, Nat.lt_succ_self _, ⟨(k0 ++ T3), (h0 + 1), hg, (by rw [List.length_append]; omega), (s.sb q q q)⟩⟩
  replace hg := br_f hg R0
  apply wp_exit
  refine p_then ?_
  refine p_then ?_
  refine p_in ?_
  apply pN
  exact ⟨(k0), hg, (by omega), (s.sb q q q)⟩
 clear s a; rintro a w ⟨q0, hg, i6, s⟩
 subst c2
 obtain ⟨U3, K3, hg⟩ := zB hg
 obtain ⟨g2, hg⟩ := zC hg
 refine S s<|sw<|lw<|mw q<|yw q (bF 3 · u38 q)<|yw q (lB 1000 · u33 q) fun a s => ?_
 refine lC s q func87 (c_r21_defs n _ _ s.lt _ lz _ _ _ (s.ft 103 q) _ K3) fun T6 a w hK hp s => ?_
 obtain ⟨rfl, x6⟩ := hp
 refine S s<|yw q (y_concat · q q g2)<|aw q<|nw<|sw<|vw<|aw q<|nw fun a s => ?_
 obtain ⟨k1, hg, i2⟩ := zJ hg
 refine c_post (fun a w => ∃ (r0 : (List UInt8)), k1 r0 = some r ∧ ((r0).length ≤ 9223372036854775807) ∧ St (cx f54 M w0) [(1, vP b2 0), (3, vT r0)] [(1000, Ob.box b2 B 38)] F a w) ?_ ?_
 ·apply wp_block
  refine c_loop (σ := Nat) (fun m3 a w => ∃ (l0 : (List UInt8)) (c0 : Nat), r21_module_L2 n t_ k1 m3 l0 c0 = some r ∧ ((l0).length ≤ 9223372036854775807) ∧ St (cx f54 M w0) [(1, vP b2 0), (3, vT l0), (6, vI (((c0 : Nat) : Int)))] [(1000, Ob.box b2 B 38)] F a w) (fun m3 => m3) n ⟨(q0 ++ U3), (0), hg, (by rw [List.length_append]; omega), (s.sb q q q)⟩ ?_
  clear s a; rintro m3 a w ⟨l0, c0, hg, l6, s⟩
  rcases m3 with _ | m3
  ·rw [r21_module_L2] at hg; cases hg
  rw [r21_module_L2] at hg
  refine S s<|sw<|vw<|mw q<|yw q (bF 4 · u38 q)<|yw q (lB 1000 · u34 q)<|yw q (lS · q u34)<|yw q (y_lssN (i := c0) (j := ((t_.Entries).length)) · q q)<|nw fun a s => c_dec s q (fun S0 => ?_) (fun S0 => ?_)
  ·replace hg := br_t hg S0
   have E5 := SlR.mx (s.ft 104 q)
   obtain ⟨j2, hg⟩ := zC hg
   obtain ⟨c4, a0, hg⟩ := zB hg
   obtain ⟨l2, hg⟩ := zC hg
   obtain ⟨n2, hg⟩ := zC hg
   obtain ⟨V3, L3, hg⟩ := zB hg
   obtain ⟨o2, hg⟩ := zC hg
   obtain ⟨p2, hg⟩ := zC hg
   obtain ⟨X3, M3, hg⟩ := zB hg
   obtain ⟨q2, hg⟩ := zC hg
   refine S s<|kw<|pw<|sw<|bw fun a s => ?_
   refine d_steps s [] q ?_; clear s; intro wr hZ s; have hR := s.wd; have hE := fun g => Ext.init hR g
   refine S s<|nqw 0 0 hR q (mo · q)<|nqw 1 0 hR q (y_concat · q q j2)<|nqw 2 0 hR q (bF 4 · u38 q)<|nqw 3 1000 hR q (lB 1000 · u34 q)<|nqw 4 0 hR q (mo · q) fun a s => ?_
   obtain ⟨J6, Z0, J5⟩ := SlR.elemX (s.ft 104 q) a0
   refine S s<|nqw 5 0 hR q (eL 7 c0 · u34 Z0 (lt_of_get a0) q)<|nqw 6 0 hR q (pF 1 · u89 q)<|nqw 7 0 hR q (pF 1 · u62 q) fun a s => ?_
   obtain ⟨E2, P2, w5, F1, u1⟩ := (SlR.again (s.ft 104 q) a0 Z0)
   obtain ⟨w4, a5, x4, b5, y4, c5, z4, d5, rfl, s3, Y5, Z5, t3, v3, w3⟩ := REntryDecl.open F1
   refine S s<|nsw 126 s3<|nsw 127 t3<|nsw 128 v3<|nsw 129 w3<|nqw 8 0 hR q (lP · E2 P2 (u1 1 _ q) u9 q)<|nqw 9 0 hR q (y_concat · q q l2)<|nqw 10 0 hR q (y_concat · q q n2)<|nqw 11 0 hR q (bF 4 · u38 q)<|nqw 12 1000 hR q (lB 1000 · u34 q)<|nqw 13 0 hR q (mo · q) fun a s => ?_
   obtain ⟨K6, a1, K5⟩ := SlR.elemX (s.ft 104 q) a0
   refine S s<|nqw 14 0 hR q (eL 7 c0 · u34 a1 (lt_of_get a0) q)<|nqw 15 0 hR q (pF 0 · u89 q) fun a s => ?_
   obtain ⟨F2, Q2, x5, G1, v1⟩ := (SlR.again (s.ft 104 q) a0 a1)
   obtain ⟨B4, e5, C4, g5, D4, h5, E4, i5, rfl, x3, a6, b6, y3, z3, B3⟩ := REntryDecl.open G1
   refine S s<|nsw 130 x3<|nsw 131 y3<|nsw 132 z3<|nsw 133 B3<|nqw 16 0 hR q (lP · F2 Q2 (v1 0 _ q) u25 q)<|nqw 20 0 hR q (bF 4 · u38 q)<|nqw 21 1000 hR q (lB 1000 · u34 q)<|nqw 22 0 hR q (mo · q) fun a s => ?_
   obtain ⟨L6, b1, L5⟩ := SlR.elemX (s.ft 104 q) a0
   refine S s<|nqw 23 0 hR q (eL 7 c0 · u34 b1 (lt_of_get a0) q)<|nqw 24 0 hR q (pF 1 · u89 q) fun a s => ?_
   obtain ⟨G2, R2, y5, H1, w1⟩ := (SlR.again (s.ft 104 q) a0 b1)
   obtain ⟨F4, j5, G4, l5, H4, n5, I4, o5, rfl, C3, c6, d6, D3, E3, F3⟩ := REntryDecl.open H1
   refine S s<|nsw 134 C3<|nsw 135 D3<|nsw 136 E3<|nsw 137 F3<|nqw 25 0 hR q (lD [_, _, _, _, _, _] 1 · G2 R2 w1 u62 q) fun a s => ?_
   refine nC 17 s q q func88 (c_r21_joined n _ _ s.lt _ _ _ (s.ft 130 q) _ lz _ L3) fun U6 a w hK hp s => ?_
   refine gA hE hZ hK fun hE hZ => ?_; clear hK
   obtain ⟨rfl, y6⟩ := hp
   refine S s<|new 18 (hE 0) q (fun w' s => y_concat s q q o2)<|new 19 (hE 0) q (fun w' s => y_concat s q q p2) fun a s => ?_
   refine nC 26 s q q func89 (c_r21_defined n _ _ s.lt _ _ _ _ _ _ _ (by omega) (by omega) (s.ft 135 q) (s.ft 136 q) (s.ft 137 q) _ M3) fun V6 a w hK hp s => ?_
   refine gA hE hZ hK fun hE hZ => ?_; clear hK
   obtain ⟨rfl, z6⟩ := hp
   refine S s<|nzw 27 q (y_concat · q q q2)<|nzw 28 q (y_assign · q) fun a s => ?_
   refine n_end (by kernel_rfl) ?_; clear hR hZ hE
   refine p_inN ?_
   refine S s<|pw<|lw<|mw q<|yw q (y_addN (i := c0) (j := 1) · q q (in64.2 (by omega)))<|aw q<|nw fun a s => ?_
   exact ⟨m3, Nat.lt_succ_self _, ⟨((((((l0 ++ [101, 110, 116, 114, 121, 32]) ++ c4.Def.Name) ++ [32, 34]) ++ V3) ++ [34]) ++ X3), (c0 + 1), hg, (by rw [List.length_append]; omega), (s.sb q q q)⟩⟩
  replace hg := br_f hg S0
  apply wp_exit
  refine p_then ?_
  refine p_then ?_
  refine p_in ?_
  apply pN
  exact ⟨(l0), hg, (by omega), (s.sb q q q)⟩
 clear s a; rintro a w ⟨r0, hg, k6, s⟩
 subst i2
 refine S s<|sw<|vw<|aw q<|nw fun a s => ?_
 obtain ⟨l1, hg, r2⟩ := zJ hg
 refine c_post (fun a w => ∃ (t0 : (List UInt8)), l1 t0 = some r ∧ ((t0).length ≤ 9223372036854775807) ∧ St (cx f54 M w0) [(1, vP b2 0), (3, vT t0)] [(1000, Ob.box b2 B 38)] F a w) ?_ ?_
 ·apply wp_block
  refine c_loop (σ := Nat) (fun m4 a w => ∃ (n0 : (List UInt8)) (d0 : Nat), r21_module_L3 n t_ l1 m4 n0 d0 = some r ∧ ((n0).length ≤ 9223372036854775807) ∧ St (cx f54 M w0) [(1, vP b2 0), (3, vT n0), (7, vI (((d0 : Nat) : Int)))] [(1000, Ob.box b2 B 38)] F a w) (fun m4 => m4) n ⟨(r0), (0), hg, (by omega), (s.sb q q q)⟩ ?_
  clear s a; rintro m4 a w ⟨n0, d0, hg, q6, s⟩
  rcases m4 with _ | m4
  ·rw [r21_module_L3] at hg; cases hg
  rw [r21_module_L3] at hg
  refine S s<|sw<|vw<|mw q<|yw q (bF 5 · u38 q)<|yw q (lB 1000 · u35 q)<|yw q (lS · q u35)<|yw q (y_lssN (i := d0) (j := ((t_.LexRules).length)) · q q)<|nw fun a s => c_dec s q (fun T0 => ?_) (fun T0 => ?_)
  ·replace hg := br_t hg T0
   have F5 := SlR.mx (s.ft 105 q)
   obtain ⟨s2, hg⟩ := zC hg
   obtain ⟨d4, b0, hg⟩ := zB hg
   obtain ⟨t2, hg⟩ := zC hg
   obtain ⟨u2, hg⟩ := zC hg
   obtain ⟨Y3, O3, hg⟩ := zB hg
   obtain ⟨v2, hg⟩ := zC hg
   obtain ⟨Z3, P3, hg⟩ := zB hg
   obtain ⟨M1, hg⟩ := zC hg
   refine S s<|kw<|pw<|sw<|bw fun a s => ?_
   refine d_steps s [] q ?_; clear s; intro wr hZ s; have hR := s.wd; have hE := fun g => Ext.init hR g
   refine S s<|nqw 0 0 hR q (mo · q)<|nqw 1 0 hR q (y_concat · q q s2)<|nqw 2 0 hR q (bF 5 · u38 q)<|nqw 3 1000 hR q (lB 1000 · u35 q)<|nqw 4 0 hR q (mo · q) fun a s => ?_
   obtain ⟨C6, V0, G5⟩ := SlR.elemX (s.ft 105 q) b0
   refine S s<|nqw 5 0 hR q (eL 8 d0 · u35 V0 (lt_of_get b0) q)<|nqw 6 0 hR q (pF 2 · u94 q)<|nqw 7 0 hR q (pF 2 · u62 q) fun a s => ?_
   obtain ⟨w2, H2, p5, x1, n1⟩ := (SlR.again (s.ft 105 q) b0 V0)
   obtain ⟨e4, J4, g4, K4, h4, L4, i4, M4, rfl, c3, O5, P5, d3, e3, g3⟩ := RLexDecl.open x1
   refine S s<|nsw 150 c3<|nsw 151 d3<|nsw 152 e3<|nsw 153 g3<|nqw 8 0 hR q (lP · w2 H2 (n1 2 _ q) u9 q)<|nqw 9 0 hR q (y_concat · q q t2)<|nqw 10 0 hR q (y_concat · q q u2)<|nqw 11 0 hR q (bF 5 · u38 q)<|nqw 12 1000 hR q (lB 1000 · u35 q)<|nqw 13 0 hR q (mo · q) fun a s => ?_
   obtain ⟨D6, X0, H5⟩ := SlR.elemX (s.ft 105 q) b0
   refine S s<|nqw 14 0 hR q (eL 8 d0 · u35 X0 (lt_of_get b0) q)<|nqw 15 0 hR q (pF 0 · u94 q) fun a s => ?_
   obtain ⟨x2, I2, q5, y1, o1⟩ := (SlR.again (s.ft 105 q) b0 X0)
   obtain ⟨j4, O4, k4, P4, l4, Q4, n4, R4, rfl, h3, Q5, R5, i3, j3, k3⟩ := RLexDecl.open y1
   refine S s<|nsw 154 h3<|nsw 155 i3<|nsw 156 j3<|nsw 157 k3<|nqw 16 0 hR q (lD [_, _] 0 · x2 I2 o1 u92 q)<|nqw 19 0 hR q (bF 5 · u38 q)<|nqw 20 1000 hR q (lB 1000 · u35 q)<|nqw 21 0 hR q (mo · q) fun a s => ?_
   obtain ⟨E6, Y0, I5⟩ := SlR.elemX (s.ft 105 q) b0
   refine S s<|nqw 22 0 hR q (eL 8 d0 · u35 Y0 (lt_of_get b0) q)<|nqw 23 0 hR q (pF 2 · u94 q) fun a s => ?_
   obtain ⟨y2, J2, r5, z1, p1⟩ := (SlR.again (s.ft 105 q) b0 Y0)
   obtain ⟨o4, S4, p4, T4, q4, U4, r4, V4, rfl, l3, S5, T5, n3, o3, p3⟩ := RLexDecl.open z1
   refine S s<|nsw 158 l3<|nsw 159 n3<|nsw 160 o3<|nsw 161 p3<|nqw 24 0 hR q (lD [_, _, _, _, _, _] 2 · y2 J2 p1 u62 q) fun a s => ?_
   refine nC 17 s q q func90 (c_r21_affixed n _ _ s.lt _ _ _ (s.ft 154 q) _ O3) fun M6 a w hK hp s => ?_
   refine gA hE hZ hK fun hE hZ => ?_; clear hK
   obtain ⟨rfl, r6⟩ := hp
   refine S s<|new 18 (hE 0) q (fun w' s => y_concat s q q v2) fun a s => ?_
   refine nC 25 s q q func89 (c_r21_defined n _ _ s.lt _ _ _ _ _ _ _ (by omega) (by omega) (s.ft 159 q) (s.ft 160 q) (s.ft 161 q) _ P3) fun O6 a w hK hp s => ?_
   refine gA hE hZ hK fun hE hZ => ?_; clear hK
   obtain ⟨rfl, s6⟩ := hp
   refine S s<|nzw 26 q (y_concat · q q M1)<|nzw 27 q (y_assign · q) fun a s => ?_
   refine n_end (by kernel_rfl) ?_; clear hR hZ hE
   refine p_inN ?_
   refine S s<|pw<|lw<|mw q<|yw q (y_addN (i := d0) (j := 1) · q q (in64.2 (by omega)))<|aw q<|nw fun a s => ?_
   exact ⟨m4, Nat.lt_succ_self _, ⟨(((((n0 ++ [108, 101, 120, 114, 117, 108, 101, 32]) ++ d4.Def.Name) ++ [32]) ++ Y3) ++ Z3), (d0 + 1), hg, (by rw [List.length_append]; omega), (s.sb q q q)⟩⟩
  replace hg := br_f hg T0
  apply wp_exit
  refine p_then ?_
  refine p_then ?_
  refine p_in ?_
  apply pN
  exact ⟨(n0), hg, (by omega), (s.sb q q q)⟩
 clear s a; rintro a w ⟨t0, hg, p6, s⟩
 subst r2
 obtain ⟨Q3, G3, hg⟩ := zB hg
 obtain ⟨P1, hg⟩ := zC hg
 obtain ⟨R3, H3, hg⟩ := zB hg
 obtain ⟨Q1, hg⟩ := zC hg
 apply wQ
 refine d_steps s [] q ?_; clear s; intro wr hZ s; have hR := s.wd; have hE := fun g => Ext.init hR g
 refine S s<|nqw 0 0 hR q (mo · q)<|nqw 1 0 hR q (bF 6 · u38 q)<|nqw 2 1000 hR q (lB 1000 · u33 q)<|nqw 5 0 hR q (bF 7 · u38 q)<|nqw 6 1000 hR q (lB 1000 · u33 q) fun a s => ?_
 refine nC 3 s q q func87 (c_r21_defs n _ _ s.lt _ lz _ _ _ (s.ft 106 q) _ G3) fun P6 a w hK hp s => ?_
 refine gA hE hZ hK fun hE hZ => ?_; clear hK
 obtain ⟨rfl, t6⟩ := hp
 refine S s<|new 4 (hE 0) q (fun w' s => y_concat s q q P1) fun a s => ?_
 refine nC 7 s q q func87 (c_r21_defs n _ _ s.lt _ lz _ _ _ (s.ft 107 q) _ H3) fun Q6 a w hK hp s => ?_
 refine gA hE hZ hK fun hE hZ => ?_; clear hK
 obtain ⟨rfl, u6⟩ := hp
 refine S s<|nzw 8 q (y_concat · q q Q1)<|nzw 9 q (y_assign · q) fun a s => ?_
 refine n_end (by kernel_rfl) ?_; clear hR hZ hE
 refine S s<|pw<|sw<|vw<|aw q<|nw fun a s => ?_
 obtain ⟨i1, hg, R1⟩ := zJ hg
 refine c_post (fun a w => ∃ (o0 : (List UInt8)), i1 o0 = some r ∧ ((o0).length ≤ 9223372036854775807) ∧ St (cx f54 M w0) [(1, vP b2 0), (3, vT o0)] [(1000, Ob.box b2 B 38)] F a w) ?_ ?_
 ·apply wp_block
  refine c_loop (σ := Nat) (fun m5 a w => ∃ (j0 : (List UInt8)) (e0 : Nat), r21_module_L4 n t_ i1 m5 j0 e0 = some r ∧ ((j0).length ≤ 9223372036854775807) ∧ St (cx f54 M w0) [(1, vP b2 0), (3, vT j0), (8, vI (((e0 : Nat) : Int)))] [(1000, Ob.box b2 B 38)] F a w) (fun m5 => m5) n ⟨((t0 ++ Q3) ++ R3), (0), hg, (by rw [List.length_append]; omega), (s.sb q q q)⟩ ?_
  clear s a; rintro m5 a w ⟨j0, e0, hg, g6, s⟩
  rcases m5 with _ | m5
  ·rw [r21_module_L4] at hg; cases hg
  rw [r21_module_L4] at hg
  refine S s<|sw<|vw<|mw q<|yw q (bF 8 · u38 q)<|yw q (lB 1000 · u36 q)<|yw q (lS · q u36)<|yw q (y_lssN (i := e0) (j := ((t_.Checks).length)) · q q)<|nw fun a s => c_dec s q (fun P0 => ?_) (fun P0 => ?_)
  ·replace hg := br_t hg P0
   have B5 := SlR.mx (s.ft 108 q)
   obtain ⟨S1, hg⟩ := zC hg
   obtain ⟨X6, e1, hg⟩ := zB hg
   obtain ⟨S3, I3, hg⟩ := zB hg
   obtain ⟨T1, hg⟩ := zC hg
   obtain ⟨U1, hg⟩ := zC hg
   refine S s<|kw<|pw<|sw<|bw<|lw<|mw q<|yw q (y_concat · q q S1)<|yw q (bF 8 · u38 q)<|yw q (lB 1000 · u36 q)<|mw q fun a s => ?_
   obtain ⟨F6, I1, z2, K2, s5, B1, q1⟩ := SlR.elemX (s.ft 108 q) e1
   refine qq s q (eL 1 e0 s u36 I1 (lt_of_get e1) q) fun a s => ?_
   obtain ⟨s4, B6, X4, rfl, c1⟩ := B1
   obtain rfl := c1.len
   refine S s<|nsw 163 c1<|yw q (lP · z2 K2 (q1 0 _ q) u25 q) fun a s => ?_
   refine lC s q func88 (c_r21_joined n _ _ s.lt _ _ _ (s.ft 163 q) _ lz _ I3) fun R6 a w hK hp s => ?_
   obtain ⟨rfl, v6⟩ := hp
   refine S s<|yw q (y_concat · q q T1)<|yw q (y_concat · q q U1)<|aw q fun a s => ?_
   apply wO
   refine p_inN ?_
   refine S s<|pw<|lw<|mw q<|yw q (y_addN (i := e0) (j := 1) · q q (in64.2 (by omega)))<|aw q<|nw fun a s => ?_
   exact ⟨m5, Nat.lt_succ_self _, ⟨(((j0 ++ [99, 104, 101, 99, 107, 32]) ++ S3) ++ [59, 10]), (e0 + 1), hg, (by rw [List.length_append]; omega), (s.sb q q q)⟩⟩
  replace hg := br_f hg P0
  apply wp_exit
  refine p_then ?_
  refine p_then ?_
  refine p_in ?_
  apply pN
  exact ⟨(j0), hg, (by omega), (s.sb q q q)⟩
 clear s a; rintro a w ⟨o0, hg, e6, s⟩
 subst R1
 refine S s<|sw<|vw<|aw q<|nw<|bw fun a s => ?_
 refine c_loop (σ := Nat) (fun m6 a w => ∃ (p0 : (List UInt8)) (g0 : Nat), r21_module_L5 n t_ m6 p0 g0 = some r ∧ ((p0).length ≤ 9223372036854775807) ∧ St (cx f54 M w0) [(1, vP b2 0), (3, vT p0), (9, vI (((g0 : Nat) : Int)))] [(1000, Ob.box b2 B 38)] F a w) (fun m6 => m6) n ⟨(o0), (0), hg, (by omega), (s.sb q q q)⟩ ?_
 clear s a; rintro m6 a w ⟨p0, g0, hg, h6, s⟩
 rcases m6 with _ | m6
 ·rw [r21_module_L5] at hg; cases hg
 rw [r21_module_L5] at hg
 refine S s<|sw<|vw<|mw q<|yw q (bF 9 · u38 q)<|yw q (lB 1000 · u25 q)<|yw q (lS · q u25)<|yw q (y_lssN (i := g0) (j := ((t_.Drops).length)) · q q)<|nw fun a s => c_dec s q (fun Q0 => ?_) (fun Q0 => ?_)
 ·replace hg := br_t hg Q0
  have C5 := SlR.mx (s.ft 109 q)
  obtain ⟨V1, hg⟩ := zC hg
  obtain ⟨b4, g1, hg⟩ := zB hg
  obtain ⟨Y1, hg⟩ := zC hg
  obtain ⟨Z1, hg⟩ := zC hg
  refine S s<|kw<|pw<|sw<|bw<|lw<|mw q<|yw q (y_concat · q q V1)<|yw q (bF 9 · u38 q)<|yw q (lB 1000 · u25 q)<|mw q fun a s => ?_
  obtain ⟨G6, J1, B2, L2, t5, C1, r1⟩ := SlR.elemX (s.ft 109 q) g1
  refine qq s q (eL 1 g0 s u25 J1 (lt_of_get g1) q) fun a s => ?_
  obtain ⟨rfl, U5⟩ := C1
  refine S s<|yw q (lP · B2 L2 (r1 0 _ q) u9 q)<|yw q (y_concat · q q Y1)<|yw q (y_concat · q q Z1)<|aw q fun a s => ?_
  apply wO
  refine p_inN ?_
  refine S s<|pw<|lw<|mw q<|yw q (y_addN (i := g0) (j := 1) · q q (in64.2 (by omega)))<|aw q<|nw fun a s => ?_
  exact ⟨m6, Nat.lt_succ_self _, ⟨(((p0 ++ [100, 114, 111, 112, 32]) ++ b4) ++ [59, 10]), (g0 + 1), hg, (by rw [List.length_append]; omega), (s.sb q q q)⟩⟩
 replace hg := br_f hg Q0
 apply wp_exit
 refine p_then ?_
 refine p_then ?_
 refine p_in ?_
 refine S s<|pw<|vw<|mw q<|aw q<|nw fun a s => ?_
 apply wp_ret
 obtain rfl := si hg
 refine fin1 (fn := Tryz.f54) s q (r_tmp s q) ?_
 exact ⟨q, (by omega)⟩
theorem c_r21_Print (n : Nat) (M : Bs) (w0 : World) (hM : bM M w0) (l_ : (List Module)) (a0 : OA) (b0 : Nat) (E0 : sR RModule M w0 a0 b0 l_) (r : ((List UInt8) × Int)) (hg : r21_Print n l_ = some r) :
    CA Tryz.prog 23 [sl a0 l_ b0] w0 (fun v w => v = .tuple #[vT r.1, .int .i64 (r.2)] ∧ ((r.1).length ≤ 9223372036854775807)) := by
 unfold r21_Print at hg
 refine enter M noB func23 q q hM ?_
 intro a s
 refine S s<|esw 101 E0<|vw<|aw q<|aw q<|nw<|sw<|vw<|mw q<|yw q (lS · q u22)<|yw q (y_gtrN (i := ((l_).length)) (j := 256) · q q)<|nw fun a s => c_dec s q (fun h0 => ?_) (fun h0 => ?_)
 ·replace hg := br_t hg h0
  have S1 := SlR.mx (s.ft 101 q)
  refine S s<|vw<|aw q<|aw q<|nw fun a s => ?_
  apply wp_ret
  refine p_thenR ?_
  obtain rfl := si hg
  refine fin2 (fn := Tryz.f23) s q (r_tmp s q) (r_tmp s q) ?_
  exact ⟨q, lz⟩
 replace hg := br_f hg h0
 refine S s<|kw<|pw<|vw<|aw q<|nw<|sw<|vw<|aw q<|nw fun a s => ?_
 obtain ⟨k3, hg, x0⟩ := zJ hg
 refine c_post (fun a w => k3 = some r ∧ St (cx f23 M w0) [(0, sl a0 l_ b0), (4, vT ([]))] [] [(101, sF RModule a0 b0 l_)] a w) ?_ ?_
 ·apply wp_block
  refine c_loop (σ := Nat) (fun m1 a w => ∃ (d0 : Nat), r21_Print_L0 n l_ k3 m1 d0 = some r ∧ St (cx f23 M w0) [(0, sl a0 l_ b0), (4, vT ([])), (5, vI (((d0 : Nat) : Int)))] [] [(101, sF RModule a0 b0 l_)] a w) (fun m1 => m1) n ⟨(0), hg, (s.sb q q q)⟩ ?_
  clear s a; rintro m1 a w ⟨d0, hg, s⟩
  rcases m1 with _ | m1
  ·rw [r21_Print_L0] at hg; cases hg
  rw [r21_Print_L0] at hg
  refine S s<|sw<|vw<|mw q<|mw q<|yw q (lS · q u22)<|yw q (y_lssN (i := d0) (j := ((l_).length)) · q q)<|nw fun a s => c_dec s q (fun l0 => ?_) (fun l0 => ?_)
  ·replace hg := br_t hg l0
   have V1 := SlR.mx (s.ft 101 q)
   obtain ⟨x8, n0, hg⟩ := zB hg
   obtain ⟨e2, Z0, hg⟩ := zB hg
   refine S s<|kw<|pw<|sw<|bw<|sw<|lw<|mw q<|mw q fun a s => ?_
   obtain ⟨c2, t0, z0, C0, Q1, r0, p0⟩ := SlR.elemX (s.ft 101 q) n0
   refine qq s q (eL 10 d0 s u22 t0 (lt_of_get n0) q) fun a s => ?_
   obtain ⟨d1, x1, e1, y1, g1, z1, h1, B1, i1, C1, j1, D1, k1, E1, l1, F1, c1, w1, rfl, X1, G0, H0, I0, J0, K0, L0, M0, O0, F0⟩ := RModule.open r0
   refine S s<|nsw 111 G0<|nsw 112 H0<|nsw 113 I0<|nsw 114 J0<|nsw 115 K0<|nsw 116 L0<|nsw 117 M0<|nsw 118 O0<|nsw 119 F0<|yw q (y_ldp · q z0 C0 (by simpa using p0) u38 q q) fun a s => ?_
   refine lV s q func53 (c_r21_moduleError n _ _ s.lt _ _ _ _ _ _ _ _ _ _ _ _ _ _ _ _ _ _ _ (by omega) (s.ft 111 q) (s.ft 112 q) (s.ft 113 q) (s.ft 114 q) (s.ft 115 q) (s.ft 116 q) (s.ft 117 q) (s.ft 118 q) (s.ft 119 q) _ Z0) fun a w hK s => ?_
   refine S s<|aw q<|nw<|vw<|mw q<|yw q (y_neq · q q)<|nw fun a s => c_dec s q (fun i0 => ?_) (fun i0 => ?_)
   ·replace hg := br_t hg i0
    refine S s<|vw<|mw q<|aw q<|aw q<|nw fun a s => ?_
    apply wp_ret
    refine p_inR ?_
    refine p_thenR ?_
    refine p_thenR ?_
    refine p_inR ?_
    refine p_thenR ?_
    obtain rfl := si hg
    refine fin2 (fn := Tryz.f23) s q (r_tmp s q) (r_tmp s q) ?_
    exact ⟨q, lz⟩
   replace hg := br_f hg i0
   apply wp_skip
   refine p_inN ?_
   refine S s<|pw<|lw<|mw q<|yw q (y_addN (i := d0) (j := 1) · q q (in64.2 (by omega)))<|aw q<|nw fun a s => ?_
   exact ⟨m1, Nat.lt_succ_self _, ⟨(d0 + 1), hg, (s.sb q q q)⟩⟩
  replace hg := br_f hg l0
  apply wp_exit
  refine p_then ?_
  refine p_then ?_
  refine p_in ?_
  apply pN
  exact ⟨hg, (s.sb q q q)⟩
 clear s a; rintro a w ⟨hg, s⟩
 subst x0
 refine S s<|sw<|vw<|aw q<|nw fun a s => ?_
 obtain ⟨o0, hg, v0⟩ := zJ hg
 refine c_post (fun a w => ∃ (e0 : (List UInt8)), o0 e0 = some r ∧ ((e0).length ≤ 9223372036854775807) ∧ St (cx f23 M w0) [(4, vT e0)] [] [] a w) ?_ ?_
 ·apply wp_block
  refine c_loop (σ := Nat) (fun m2 a w => ∃ (g0 : (List UInt8)) (c0 : Nat), r21_Print_L1 n l_ o0 m2 g0 c0 = some r ∧ ((g0).length ≤ 9223372036854775807) ∧ St (cx f23 M w0) [(0, sl a0 l_ b0), (4, vT g0), (7, vI (((c0 : Nat) : Int)))] [] [(101, sF RModule a0 b0 l_)] a w) (fun m2 => m2) n ⟨([]), (0), hg, lz, (s.sb q q q)⟩ ?_
  clear s a; rintro m2 a w ⟨g0, c0, hg, a2, s⟩
  rcases m2 with _ | m2
  ·rw [r21_Print_L1] at hg; cases hg
  rw [r21_Print_L1] at hg
  refine S s<|sw<|vw<|mw q<|mw q<|yw q (lS · q u22)<|yw q (y_lssN (i := c0) (j := ((l_).length)) · q q)<|nw fun a s => c_dec s q (fun j0 => ?_) (fun j0 => ?_)
  ·replace hg := br_t hg j0
   have T1 := SlR.mx (s.ft 101 q)
   obtain ⟨h2, m0, hg⟩ := zB hg
   obtain ⟨b1, a1, hg⟩ := zB hg
   obtain ⟨y0, hg⟩ := zC hg
   refine S s<|kw<|pw<|sw<|bw<|lw<|mw q<|mw q<|mw q fun a s => ?_
   obtain ⟨d2, u0, B0, D0, R1, s0, q0⟩ := SlR.elemX (s.ft 101 q) m0
   refine qq s q (eL 10 c0 s u22 u0 (lt_of_get m0) q) fun a s => ?_
   obtain ⟨o1, H1, p1, I1, q1, J1, r1, K1, s1, L1, t1, M1, u1, O1, v1, P1, n1, G1, rfl, Y1, Q0, R0, S0, T0, U0, V0, X0, Y0, P0⟩ := RModule.open s0
   refine S s<|nsw 129 Q0<|nsw 130 R0<|nsw 131 S0<|nsw 132 T0<|nsw 133 U0<|nsw 134 V0<|nsw 135 X0<|nsw 136 Y0<|nsw 137 P0<|yw q (y_ldp · q B0 D0 (by simpa using q0) u38 q q) fun a s => ?_
   refine lC s q func54 (c_r21_module n _ _ s.lt _ _ _ _ _ _ _ _ _ _ _ _ _ _ _ _ _ _ _ (by omega) (s.ft 129 q) (s.ft 130 q) (s.ft 131 q) (s.ft 132 q) (s.ft 133 q) (s.ft 134 q) (s.ft 135 q) (s.ft 136 q) (s.ft 137 q) _ a1) fun g2 a w hK hp s => ?_
   obtain ⟨rfl, b2⟩ := hp
   refine S s<|yw q (y_concat · q q y0)<|aw q fun a s => ?_
   apply wO
   refine p_inN ?_
   refine S s<|pw<|lw<|mw q<|yw q (y_addN (i := c0) (j := 1) · q q (in64.2 (by omega)))<|aw q<|nw fun a s => ?_
   exact ⟨m2, Nat.lt_succ_self _, ⟨(g0 ++ b1), (c0 + 1), hg, (by rw [List.length_append]; omega), (s.sb q q q)⟩⟩
  replace hg := br_f hg j0
  apply wp_exit
  refine p_then ?_
  refine p_then ?_
  refine p_in ?_
  apply pN
  exact ⟨(g0), hg, (by omega), (s.sb q q q)⟩
 clear s a; rintro a w ⟨e0, hg, Z1, s⟩
 subst v0
 refine S s<|sw<|vw<|mw q<|yw q (y_lenStrN · q u9)<|yw q (y_gtrN (i := ((e0).length)) (j := 65536) · q q)<|nw fun a s => c_dec s q (fun k0 => ?_) (fun k0 => ?_)
 ·replace hg := br_t hg k0
  have U1 : (e0).length ≤ 9223372036854775807 := (by omega)
  refine S s<|vw<|aw q<|aw q<|nw fun a s => ?_
  apply wp_ret
  refine p_thenR ?_
  obtain rfl := si hg
  refine fin2 (fn := Tryz.f23) s q (r_tmp s q) (r_tmp s q) ?_
  exact ⟨q, lz⟩
 replace hg := br_f hg k0
 refine S s<|kw<|pw<|vw<|mw q<|aw q<|aw q<|nw fun a s => ?_
 apply wp_ret
 obtain rfl := si hg
 refine fin2 (fn := Tryz.f23) s q (r_tmp s q) (r_tmp s q) ?_
 exact ⟨q, (by omega)⟩
theorem c_law22_light (n : Nat) (M : Bs) (w0 : World) (hM : bM M w0) (t_ : (List Module)) (c0 : OA) (d0 : Nat) (g1 : sR RModule M w0 c0 d0 t_) (r : Bool) (hg : law22_light n t_ = some r) :
    CA Tryz.prog 10 [sl c0 t_ d0] w0 (fun v w => v = .bool (r)) := by
 unfold law22_light at hg
 refine enter M noB func10 q q hM ?_
 intro a s
 refine S s<|esw 101 g1<|vw<|aw q<|nw<|sw<|sw fun a s => ?_
 obtain ⟨k1, hg, O0⟩ := zJ hg
 refine c_post (fun a w => ∃ (o0 : Bool), k1 o0 = some r ∧ St (cx f10 M w0) [(0, sl c0 t_ d0), (14, .bool (o0))] [] [(101, sF RModule c0 d0 t_)] a w) ?_ ?_
 ·rcases Decidable.em ((6 : Nat) < ((t_).length)) with g0 | g0
  ·have m0 := decide_eq_true g0
   replace hg := br_t hg g0
   have t5 := SlR.mx (s.ft 101 q)
   refine S s<|lw<|mw q<|yw q (lS · q u22)<|yw q (fun s => yl_b (y_gtrN (i := ((t_).length)) (j := 6) s q q) m0)<|mw q<|gw q<|gw q<|gw q<|tw_ q<|nw fun a s => ?_
   exact ⟨(true), hg, (s.sb q q q)⟩
  have m0 := decide_eq_false g0
  replace hg := br_f hg g0
  obtain ⟨r5, z2, hg⟩ := zB hg
  refine S s<|lw<|mw q<|yw q (lS · q u22)<|yw q (fun s => yl_b (y_gtrN (i := ((t_).length)) (j := 6) s q q) m0)<|mw q<|hw q fun a s => ?_
  refine gV s q func22 (c_r21_Light n _ _ s.lt _ _ _ (s.ft 101 q) _ z2) fun a w hK s => ?_
  refine S s<|zw q (y_not · q)<|fw q<|nw fun a s => ?_
  exact ⟨(!(r5)), hg, (s.sb q q q)⟩
 clear s a; rintro a w ⟨o0, hg, s⟩
 subst O0
 refine c_cond s q (fun k0 => ?_) (fun k0 => ?_)
 ·replace hg := br_t hg k0
  refine S s<|vw<|aw q<|nw fun a s => ?_
  apply wp_ret
  refine p_thenR ?_
  obtain rfl := si hg
  exact fT f10 s q q q
 replace hg := br_n hg k0
 refine S s<|kw<|pw<|vw<|aw q<|nw<|sw<|vw<|aw q<|nw fun a s => ?_
 obtain ⟨p0, hg, P0⟩ := zJ hg
 refine c_post (fun a w => ∃ (j0 : Int), p0 j0 = some r ∧ St (cx f10 M w0) [(0, sl c0 t_ d0), (3, vI j0)] [] [(101, sF RModule c0 d0 t_)] a w) ?_ ?_
 ·apply wp_block
  refine c_loop (σ := Nat) (fun m1 a w => ∃ (i0 : Int) (b0 : Nat), law22_light_L0 n t_ p0 m1 i0 b0 = some r ∧ St (cx f10 M w0) [(0, sl c0 t_ d0), (3, vI i0), (4, vI (((b0 : Nat) : Int)))] [] [(101, sF RModule c0 d0 t_)] a w) (fun m1 => m1) n ⟨(0), (0), hg, (s.sb q q q)⟩ ?_
  clear s a; rintro m1 a w ⟨i0, b0, hg, s⟩
  rcases m1 with _ | m1
  ·rw [law22_light_L0] at hg; cases hg
  rw [law22_light_L0] at hg
  refine S s<|sw<|vw<|mw q<|mw q<|yw q (lS · q u22)<|yw q (y_lssN (i := b0) (j := ((t_).length)) · q q)<|nw fun a s => c_dec s q (fun l0 => ?_) (fun l0 => ?_)
  ·replace hg := br_t hg l0
   have s5 := SlR.mx (s.ft 101 q)
   obtain ⟨e0, a0, hg⟩ := zB hg
   refine S s<|kw<|pw<|sw<|bw fun a s => ?_
   refine d_plan s [] [(0, some 0), (1, some 0), (2, some 0), (3, some 0), (4, some 0), (5, some 0), (6, some 0), (7, some 0), (8, some 0), (9, some 0), (10, some 0), (11, some 0), (12, some 0), (13, some 0), (14, some 0), (15, some 0), (16, some 0), (17, some 0), (18, some 0), (19, some 0), (20, some 0), (21, some 0), (22, some 0), (23, some 0), (24, some 0), (25, some 0), (26, some 0), (27, some 0), (28, some 0), (29, some 0), (30, some 0), (31, some 0), (32, some 0), (33, some 0), (34, some 0), (35, some 0), (36, some 0), (37, some 0), (38, some 0), (39, some 0), (40, some 0), (41, some 0), (42, some 0), (43, some 0), (44, some 0), (45, some 0), (46, some 0), (47, some 0), (48, some 0), (49, some 0), (50, some 0)] q (by kernel_rfl) (by kernel_rfl) q ?_; clear s; intro wr hZ s; have hR := s.wd
   refine S s<|qw hR q (mo · q)<|qw hR q (mo · q)<|qw hR q (mo · q) fun a s => ?_
   obtain ⟨D5, G0, Q0, Y0, k5, y0, q0⟩ := SlR.elemX (s.ft 101 q) a0
   refine S s<|qw hR q (eL 10 b0 · u22 G0 (lt_of_get a0) q)<|qw hR q (pF 2 · u38 q) fun a s => ?_
   obtain ⟨C2, T3, D2, U3, E2, V3, F2, X3, G2, Y3, H2, Z3, I2, a4, J2, b4, B2, S3, rfl, u5, i1, j1, l1, n1, o1, p1, q1, r1, h1⟩ := RModule.open y0
   refine S s<|nsw 165 i1<|nsw 166 j1<|nsw 167 l1<|nsw 168 n1<|nsw 169 o1<|nsw 170 p1<|nsw 171 q1<|nsw 172 r1<|nsw 173 h1<|qw hR q (lP · Q0 Y0 (q0 2 _ q) u32 q)<|qw hR q (lS · q u32)<|qw hR q (y_wadd · q q)<|qw hR q (mo · q)<|qw hR q (mo · q) fun a s => ?_
   obtain ⟨E5, H0, R0, Z0, l5, z0, r0⟩ := SlR.elemX (s.ft 101 q) a0
   refine S s<|qw hR q (eL 10 b0 · u22 H0 (lt_of_get a0) q)<|qw hR q (pF 3 · u38 q) fun a s => ?_
   obtain ⟨L2, d4, M2, e4, O2, g4, P2, h4, Q2, i4, R2, j4, S2, k4, T2, l4, K2, c4, rfl, v5, t1, u1, v1, w1, x1, y1, z1, B1, s1⟩ := RModule.open z0
   refine S s<|nsw 174 t1<|nsw 175 u1<|nsw 176 v1<|nsw 177 w1<|nsw 178 x1<|nsw 179 y1<|nsw 180 z1<|nsw 181 B1<|nsw 182 s1<|qw hR q (lP · R0 Z0 (r0 3 _ q) u33 q)<|qw hR q (lS · q u33)<|qw hR q (y_wadd · q q)<|qw hR q (mo · q)<|qw hR q (mo · q) fun a s => ?_
   obtain ⟨F5, I0, S0, a1, m5, B0, s0⟩ := SlR.elemX (s.ft 101 q) a0
   refine S s<|qw hR q (eL 10 b0 · u22 I0 (lt_of_get a0) q)<|qw hR q (pF 4 · u38 q) fun a s => ?_
   obtain ⟨V2, n4, X2, o4, Y2, p4, Z2, q4, a3, r4, b3, s4, c3, t4, d3, v4, U2, m4, rfl, w5, D1, E1, F1, G1, H1, I1, J1, K1, C1⟩ := RModule.open B0
   refine S s<|nsw 183 D1<|nsw 184 E1<|nsw 185 F1<|nsw 186 G1<|nsw 187 H1<|nsw 188 I1<|nsw 189 J1<|nsw 190 K1<|nsw 191 C1<|qw hR q (lP · S0 a1 (s0 4 _ q) u34 q)<|qw hR q (lS · q u34)<|qw hR q (y_wadd · q q)<|qw hR q (mo · q)<|qw hR q (mo · q) fun a s => ?_
   obtain ⟨G5, J0, T0, b1, n5, C0, t0⟩ := SlR.elemX (s.ft 101 q) a0
   refine S s<|qw hR q (eL 10 b0 · u22 J0 (lt_of_get a0) q)<|qw hR q (pF 5 · u38 q) fun a s => ?_
   obtain ⟨g3, x4, h3, y4, i3, z4, j3, B4, k3, C4, l3, D4, m3, E4, n3, F4, e3, w4, rfl, x5, M1, O1, P1, Q1, R1, S1, T1, U1, L1⟩ := RModule.open C0
   refine S s<|nsw 192 M1<|nsw 193 O1<|nsw 194 P1<|nsw 195 Q1<|nsw 196 R1<|nsw 197 S1<|nsw 198 T1<|nsw 199 U1<|nsw 200 L1<|qw hR q (lP · T0 b1 (t0 5 _ q) u35 q)<|qw hR q (lS · q u35)<|qw hR q (y_wadd · q q)<|qw hR q (mo · q)<|qw hR q (mo · q) fun a s => ?_
   obtain ⟨H5, K0, U0, c1, o5, D0, u0⟩ := SlR.elemX (s.ft 101 q) a0
   refine S s<|qw hR q (eL 10 b0 · u22 K0 (lt_of_get a0) q)<|qw hR q (pF 6 · u38 q) fun a s => ?_
   obtain ⟨p3, H4, q3, I4, r3, J4, s3, K4, t3, L4, v3, M4, w3, O4, x3, P4, o3, G4, rfl, y5, X1, Y1, Z1, a2, b2, c2, d2, e2, V1⟩ := RModule.open D0
   refine S s<|nsw 201 X1<|nsw 202 Y1<|nsw 203 Z1<|nsw 204 a2<|nsw 205 b2<|nsw 206 c2<|nsw 207 d2<|nsw 208 e2<|nsw 209 V1<|qw hR q (lP · U0 c1 (u0 6 _ q) u33 q)<|qw hR q (lS · q u33)<|qw hR q (y_wadd · q q)<|qw hR q (mo · q)<|qw hR q (mo · q) fun a s => ?_
   obtain ⟨I5, L0, V0, d1, p5, E0, v0⟩ := SlR.elemX (s.ft 101 q) a0
   refine S s<|qw hR q (eL 10 b0 · u22 L0 (lt_of_get a0) q)<|qw hR q (pF 7 · u38 q) fun a s => ?_
   obtain ⟨z3, R4, B3, S4, C3, T4, D3, U4, E3, V4, F3, X4, G3, Y4, H3, Z4, y3, Q4, rfl, z5, h2, i2, j2, k2, l2, m2, n2, o2, g2⟩ := RModule.open E0
   refine S s<|nsw 210 h2<|nsw 211 i2<|nsw 212 j2<|nsw 213 k2<|nsw 214 l2<|nsw 215 m2<|nsw 216 n2<|nsw 217 o2<|nsw 218 g2<|qw hR q (lP · V0 d1 (v0 7 _ q) u33 q)<|qw hR q (lS · q u33)<|qw hR q (y_wadd · q q)<|qw hR q (mo · q)<|qw hR q (mo · q) fun a s => ?_
   obtain ⟨J5, M0, X0, e1, q5, F0, x0⟩ := SlR.elemX (s.ft 101 q) a0
   refine S s<|qw hR q (eL 10 b0 · u22 M0 (lt_of_get a0) q)<|qw hR q (pF 1 · u38 q) fun a s => ?_
   obtain ⟨J3, b5, K3, c5, L3, d5, M3, e5, O3, g5, P3, h5, Q3, i5, R3, j5, I3, a5, rfl, B5, q2, r2, s2, t2, u2, v2, w2, x2, p2⟩ := RModule.open F0
   refine S s<|nsw 219 q2<|nsw 220 r2<|nsw 221 s2<|nsw 222 t2<|nsw 223 u2<|nsw 224 v2<|nsw 225 w2<|nsw 226 x2<|nsw 227 p2<|qw hR q (lP · X0 e1 (x0 1 _ q) u25 q)<|qw hR q (lS · q u25)<|qw hR q (y_wadd · q q)<|qw hR q (y_assign · q) fun a s => ?_
   clear hR hZ
   refine p_inN ?_
   refine S s<|pw<|lw<|mw q<|yw q (y_addN (i := b0) (j := 1) · q q (in64.2 (by omega)))<|aw q<|nw fun a s => ?_
   exact ⟨m1, Nat.lt_succ_self _, ⟨(IntKind.i64.wrap ((IntKind.i64.wrap ((IntKind.i64.wrap ((IntKind.i64.wrap ((IntKind.i64.wrap ((IntKind.i64.wrap ((IntKind.i64.wrap (i0 + (((e0.Types).length : Nat) : Int))) + (((e0.Templates).length : Nat) : Int))) + (((e0.Entries).length : Nat) : Int))) + (((e0.LexRules).length : Nat) : Int))) + (((e0.Rules).length : Nat) : Int))) + (((e0.Roots).length : Nat) : Int))) + (((e0.Imports).length : Nat) : Int))), (b0 + 1), hg, (s.sb q q q)⟩⟩
  replace hg := br_f hg l0
  apply wp_exit
  refine p_then ?_
  refine p_then ?_
  refine p_in ?_
  apply pN
  exact ⟨(i0), hg, (s.sb q q q)⟩
 clear s a; rintro a w ⟨j0, hg, s⟩
 subst P0
 obtain ⟨K5, y2, hg⟩ := zB hg
 refine S s<|sw<|lw<|mw q fun a s => ?_
 refine lC s q func23 (c_r21_Print n _ _ s.lt _ _ _ (s.ft 101 q) _ y2) fun L5 a w hK hp s => ?_
 obtain ⟨rfl, C5⟩ := hp
 refine S s<|mw q<|yw q (y_extract · q q)<|yw q (y_extract · q q)<|aw q<|aw q<|nw<|sw fun a s => ?_
 rcases Decidable.em (j0 ≤ 40) with h0 | h0
 ·have n0 := decide_eq_true h0
  replace hg := br_t hg h0
  refine S s<|lw<|mw q<|yw q (fun s => yl_b (y_leq s q q) n0)<|mw q<|hw q<|zw q (y_eql · q q)<|tw_ q<|aw q<|nw fun a s => ?_
  apply wp_ret
  obtain rfl := si hg
  exact fT f10 s q q q
 have n0 := decide_eq_false h0
 replace hg := br_f hg h0
 refine S s<|lw<|mw q<|yw q (fun s => yl_b (y_leq s q q) n0)<|mw q<|gw q<|gw q<|fw q<|aw q<|nw fun a s => ?_
 apply wp_ret
 obtain rfl := si hg
 exact fT f10 s q q q
theorem c_slices_IndexFunc_Module (n : Nat) (M : Bs) (w0 : World) (hM : bM M w0) (s_ : (List Module)) (d0 : OA) (e0 : Nat) (I0 : sR RModule M w0 d0 e0 s_) (f_ : (Module → Option Bool)) (c0 : FuncId) (b0 : List Value) (J0 : FnR Tryz.prog c0 b0 pre66 post66 (f_) M w0) (r : Int) (hg : slices_IndexFunc_Module n s_ f_ = some r) :
    CA Tryz.prog 55 [sl d0 s_ e0, .func (.func c0) #[] (List.toArray b0)] w0 (fun v w => v = .int .i64 (r)) := by
 unfold slices_IndexFunc_Module at hg
 refine enter M noB func55 q q hM ?_
 intro a s
 replace s := s.es 101 I0
 replace s := s.add 102 (fnF Tryz.prog c0 b0 pre66 post66 (f_)) (by exact Fact.change _ enterM J0)
 refine S s<|vw<|aw q<|nw<|sw<|vw<|mw q<|yw q (lS · q u22)<|mw q<|nw<|bw fun a s => ?_
 refine c_loop (σ := Nat) (fun m1 a w => ∃ (a0 : Nat), slices_IndexFunc_Module_L0 n s_ f_ m1 a0 = some r ∧ St (cx f55 M w0) [(0, sl d0 s_ e0), (1, .func (.func c0) #[] (List.toArray b0)), (7, vI ((((s_).length : Nat) : Int))), (8, vI (((a0 : Nat) : Int)))] [] [(101, sF RModule d0 e0 s_), (102, fnF Tryz.prog c0 b0 pre66 post66 (f_))] a w) (fun m1 => m1) n ⟨(0), hg, (s.sb q q q)⟩ ?_
 clear s a; rintro m1 a w ⟨a0, hg, s⟩
 rcases m1 with _ | m1
 ·rw [slices_IndexFunc_Module_L0] at hg; cases hg
 rw [slices_IndexFunc_Module_L0] at hg
 refine S s<|vw<|yw q (y_lssN (i := a0) (j := ((s_).length)) · q q)<|nw<|sw fun a s => c_dec s q (fun h0 => ?_) (fun h0 => ?_)
 ·replace hg := br_t hg h0
  have X0 := SlR.mx (s.ft 101 q)
  obtain ⟨x5, i0, hg⟩ := zB hg
  obtain ⟨r7, U0, hg⟩ := zB hg
  refine S s<|kw<|pw<|sw<|bw<|vw<|mw q<|aw q<|nw<|sw<|lw<|mw q<|mw q<|mw q fun a s => ?_
  obtain ⟨Z0, F0, G0, H0, V0, E0, D0⟩ := SlR.elemX (s.ft 101 q) i0
  refine qq s q (eL 10 a0 s u22 F0 (lt_of_get i0) q) fun a s => ?_
  obtain ⟨k0, t0, l0, u0, m0, v0, n0, x0, o0, y0, p0, z0, q0, B0, r0, C0, j0, s0, rfl, Y0, L0, M0, O0, P0, Q0, R0, S0, T0, K0⟩ := RModule.open E0
  refine S s<|nsw 112 L0<|nsw 113 M0<|nsw 114 O0<|nsw 115 P0<|nsw 116 Q0<|nsw 117 R0<|nsw 118 S0<|nsw 119 T0<|nsw 120 K0<|yw q (y_ldp · q G0 H0 (by simpa using D0) u38 q q) fun a s => ?_
  refine l_seq q (l_callFn (cap := b0) (x := x5) s q (s.ft 102 q) q q ⟨(k0), (t0), (l0), (u0), (m0), (v0), (n0), (x0), (o0), (y0), (p0), (z0), (q0), (B0), (r0), (C0), (j0), (s0), q, (by omega), (s.ft 112 q), (s.ft 113 q), (s.ft 114 q), (s.ft 115 q), (s.ft 116 q), (s.ft 117 q), (s.ft 118 q), (s.ft 119 q), (s.ft 120 q)⟩ U0 fun a1 a w hK hp s => ?_)
  obtain rfl := hp
  apply wN
  refine c_cond s q (fun g0 => ?_) (fun g0 => ?_)
  ·replace hg := br_t hg g0
   refine S s<|vw<|mw q<|aw q<|nw fun a s => ?_
   apply wp_ret
   refine p_inR ?_
   refine p_thenR ?_
   refine p_thenR ?_
   refine p_inR ?_
   refine p_thenR ?_
   obtain rfl := si hg
   exact fT f55 s q q q
  replace hg := br_n hg g0
  apply wp_skip
  refine p_inN ?_
  refine S s<|pw<|lw<|yw q (y_addN (i := a0) (j := 1) · q q (in64.2 (by omega)))<|mw q<|nw fun a s => ?_
  exact ⟨m1, Nat.lt_succ_self _, ⟨(a0 + 1), hg, (s.sb q q q)⟩⟩
 replace hg := br_f hg h0
 apply wp_exit
 refine p_then ?_
 refine p_then ?_
 refine p_in ?_
 refine S s<|pw<|vw<|aw q<|nw fun a s => ?_
 apply wp_ret
 obtain rfl := si hg
 exact fT f55 s q q q
theorem c_module_find_1 (n : Nat) (M : Bs) (w0 : World) (hM : bM M w0) (m_ : Module) (b0 : OA) (m0 : Nat) (c0 : OA) (n0 : Nat) (d0 : OA) (o0 : Nat) (e0 : OA) (p0 : Nat) (g0 : OA) (q0 : Nat) (h0 : OA) (r0 : Nat) (i0 : OA) (s0 : Nat) (j0 : OA) (t0 : Nat) (a0 : OA) (l0 : Nat) (I0 : (m_.Name).length ≤ 9223372036854775807) (y0 : sR Rep.str M w0 b0 m0 m_.Imports) (z0 : sR RTypeDecl M w0 c0 n0 m_.Types) (B0 : sR RDef M w0 d0 o0 m_.Templates) (C0 : sR REntryDecl M w0 e0 p0 m_.Entries) (D0 : sR RLexDecl M w0 g0 q0 m_.LexRules) (E0 : sR RDef M w0 h0 r0 m_.Rules) (F0 : sR RDef M w0 i0 s0 m_.Roots) (G0 : sR (Rep.list Rep.str) M w0 j0 t0 m_.Checks) (x0 : sR Rep.str M w0 a0 l0 m_.Drops) (u0 : Nat) (k0 : (List UInt8)) (H0 : (k0).length ≤ 9223372036854775807) (v0 : BoxR u0 [.string (bs (k0))] 9 M w0) (r : Bool) (hg : module_find_1 n m_ k0 = some r) :
    CA Tryz.prog 56 [.agg #[vT m_.Name, sl b0 m_.Imports m0, sl c0 m_.Types n0, sl d0 m_.Templates o0, sl e0 m_.Entries p0, sl g0 m_.LexRules q0, sl h0 m_.Rules r0, sl i0 m_.Roots s0, sl j0 m_.Checks t0, sl a0 m_.Drops l0], .pointer (some ⟨u0, 0, none⟩)] w0 (fun v w => v = .bool (r)) := by
 unfold module_find_1 at hg
 refine enter M noB func56 q q hM ?_
 intro a s
 replace s := s.es 101 y0 |>.es 102 z0 |>.es 103 B0 |>.es 104 C0 |>.es 105 D0 |>.es 106 E0 |>.es 107 F0 |>.es 108 G0 |>.es 109 x0
 replace s := s.ebx 110 v0
 apply wR
 refine l_seq q (l_box (zs := [vT m_.Name, sl b0 m_.Imports m0, sl c0 m_.Types n0, sl d0 m_.Templates o0, sl e0 m_.Entries p0, sl g0 m_.LexRules q0, sl h0 m_.Rules r0, sl i0 m_.Roots s0, sl j0 m_.Checks t0, sl a0 m_.Drops l0]) s 1000 q q q q fun b2 a w hb hK s => ?_)
 refine S s<|aw q<|nw<|vw<|yw q (bF 0 · u38 q)<|yw q (lB 1000 · u9 q)<|yw q (fun s => y_loadF1 s q (s.ft 110 q) q u9 q)<|yw q (y_seq · q q)<|aw q<|nw fun a s => ?_
 apply wp_ret
 obtain rfl := si hg
 exact fT f56 s q q q
theorem c_module_find (n : Nat) (M : Bs) (w0 : World) (hM : bM M w0) (l_ : (List Module)) (R0 : OA) (S0 : Nat) (j1 : sR RModule M w0 R0 S0 l_) (name_ : (List UInt8)) (x1 : (name_).length ≤ 9223372036854775807) (r : (Module × Bool)) (hg : module_find n l_ name_ = some r) :
    CA Tryz.prog 27 [sl R0 l_ S0, vT name_] w0 (fun v w => ∃ (c0 : OA), ∃ (m0 : Nat), ∃ (d0 : OA), ∃ (n0 : Nat), ∃ (e0 : OA), ∃ (o0 : Nat), ∃ (g0 : OA), ∃ (p0 : Nat), ∃ (h0 : OA), ∃ (q0 : Nat), ∃ (i0 : OA), ∃ (r0 : Nat), ∃ (j0 : OA), ∃ (s0 : Nat), ∃ (k0 : OA), ∃ (t0 : Nat), ∃ (b0 : OA), ∃ (l0 : Nat), v = .tuple #[.agg #[vT r.1.Name, sl c0 r.1.Imports m0, sl d0 r.1.Types n0, sl e0 r.1.Templates o0, sl g0 r.1.Entries p0, sl h0 r.1.LexRules q0, sl i0 r.1.Rules r0, sl j0 r.1.Roots s0, sl k0 r.1.Checks t0, sl b0 r.1.Drops l0], .bool (r.2)] ∧ ((r.1.Name).length ≤ 9223372036854775807) ∧ (SlR Rep.str M w c0 (r.1.Imports).length m0 (r.1.Imports)) ∧ (SlR RTypeDecl M w d0 (r.1.Types).length n0 (r.1.Types)) ∧ (SlR RDef M w e0 (r.1.Templates).length o0 (r.1.Templates)) ∧ (SlR REntryDecl M w g0 (r.1.Entries).length p0 (r.1.Entries)) ∧ (SlR RLexDecl M w h0 (r.1.LexRules).length q0 (r.1.LexRules)) ∧ (SlR RDef M w i0 (r.1.Rules).length r0 (r.1.Rules)) ∧ (SlR RDef M w j0 (r.1.Roots).length s0 (r.1.Roots)) ∧ (SlR (Rep.list Rep.str) M w k0 (r.1.Checks).length t0 (r.1.Checks)) ∧ (SlR Rep.str M w b0 (r.1.Drops).length l0 (r.1.Drops))) := by
 unfold module_find at hg
 refine enter M noB func27 q q hM ?_
 intro a s
 replace s := s.es 101 j1
 apply wR
 refine l_seq q (l_box (zs := [vT name_]) s 1000 q q q q fun b3 a w hb hK s => ?_)
 refine l_seq q (l_alloc (zs := [vT ([]), nS, nS, nS, nS, nS, nS, nS, nS, nS]) s 1001 q q q q fun b4 a w hb hK s => ?_)
 obtain ⟨r5, t1, hg⟩ := zB hg
 refine S s<|aw q<|nw<|sw<|lw<|mw q fun a s => ?_
 replace s := s.freezeBox (L' := [(1001, Ob.box b4 [vT ([]), nS, nS, nS, nS, nS, nS, nS, nS, nS] 38)]) 103 1000 q ⟨q, trivial⟩ q
 refine qq s q (y_makeFunc (xs := [.tmp 3]) (vs := [vP b3 0]) s q) fun a s => ?_
 refine lV s q func55 (c_slices_IndexFunc_Module n _ _ s.lt _ _ _ (s.ft 101 q) _ _ _ ⟨⟨_, _, func56, q, by kernel_rfl⟩, fun M1 w1 hk hm hlt vs x r hp hr => by obtain ⟨c0, m0, d0, n0, e0, o0, g0, p0, h0, q0, i0, r0, j0, s0, k0, t0, b0, l0, rfl, u1, U0, V0, X0, Y0, Z0, a1, b1, c1, T0⟩ := hp; exact c_module_find_1 n M1 w1 hlt (x) c0 m0 d0 n0 e0 o0 g0 p0 h0 q0 i0 r0 j0 s0 k0 t0 b0 l0 u1 U0 V0 X0 Y0 Z0 a1 b1 c1 T0 b3 (name_) (by omega) (Fact.move (boxF b3 [vT name_] 9) hk hm (s.ft 103 q)) r hr⟩ _ t1) fun a w hK s => ?_
 refine S s<|aw q<|nw<|sw<|vw<|mw q<|yw q (y_lss · q q)<|nw fun a s => c_dec s q (fun P0 => ?_) (fun P0 => ?_)
 ·replace hg := br_t hg P0
  apply wR
  refine qq s q (y_build (parts := []) (ps := []) (cells := #[vT ([]), nS, nS, nS, nS, nS, nS, nS, nS, nS]) s q (by kernel_rfl)) fun a s => ?_
  refine l_seq q (l_store (n := 10) (cs' := [vT ([]), nS, nS, nS, nS, nS, nS, nS, nS, nS]) s 1001 q q q q q q q q ?_); clear s; intro w hK s; clear hK
  refine S s<|aw q<|nw fun a s => ?_
  apply wp_ret
  refine p_thenR ?_
  obtain rfl := si hg
  refine fin2 (fn := Tryz.f27) s q (r_cell (kk := 1001) (n := 10) (vs := [vT ([]), nS, nS, nS, nS, nS, nS, nS, nS, nS]) s q q u38 q q q q) (r_tmp s q) ?_
  exact ⟨(none), (0), (none), (0), (none), (0), (none), (0), (none), (0), (none), (0), (none), (0), (none), (0), (none), (0), q, lz, (SlR.nil_ _ _ _), (SlR.nil_ _ _ _), (SlR.nil_ _ _ _), (SlR.nil_ _ _ _), (SlR.nil_ _ _ _), (SlR.nil_ _ _ _), (SlR.nil_ _ _ _), (SlR.nil_ _ _ _), (SlR.nil_ _ _ _)⟩
 replace hg := br_f hg P0
 obtain ⟨a0, Q0, hg⟩ := zB hg
 refine S s<|kw<|pw<|sw<|lw<|mw q<|mw q fun a s => ?_
 obtain ⟨z1, g1, h1, i1, v1, e1, d1⟩ := SlR.elemX (s.ft 101 q) (ix_some Q0).1
 refine qq s q (y_elem (sz := 10) (i := ((r5).toNat)) s q q u22 q g1 (ix_some Q0).2.1 (lt_of_get (ix_some Q0).1)) fun a s => ?_
 obtain ⟨v0, G0, x0, H0, y0, I0, z0, J0, B0, K0, C0, L0, D0, M0, E0, O0, u0, F0, rfl, y1, l1, m1, n1, o1, p1, q1, r1, s1, k1⟩ := RModule.open e1
 refine S s<|nsw 113 l1<|nsw 114 m1<|nsw 115 n1<|nsw 116 o1<|nsw 117 p1<|nsw 118 q1<|nsw 119 r1<|nsw 120 s1<|nsw 121 k1<|yw q (y_ldp · q h1 i1 (by simpa using d1) u38 q q) fun a s => ?_
 refine l_seq q (l_store (n := 10) (cs' := [vT a0.Name, sl v0 a0.Imports G0, sl x0 a0.Types H0, sl y0 a0.Templates I0, sl z0 a0.Entries J0, sl B0 a0.LexRules K0, sl C0 a0.Rules L0, sl D0 a0.Roots M0, sl E0 a0.Checks O0, sl u0 a0.Drops F0]) s 1001 q q q q q q q q ?_); clear s; intro w hK s; clear hK
 refine S s<|aw q<|nw fun a s => ?_
 apply wp_ret
 obtain rfl := si hg
 refine fin2 (fn := Tryz.f27) s q (r_cell (kk := 1001) (n := 10) (vs := [vT a0.Name, sl v0 a0.Imports G0, sl x0 a0.Types H0, sl y0 a0.Templates I0, sl z0 a0.Entries J0, sl B0 a0.LexRules K0, sl C0 a0.Rules L0, sl D0 a0.Roots M0, sl E0 a0.Checks O0, sl u0 a0.Drops F0]) s q q u38 q q q q) (r_tmp s q) ?_
 exact ⟨(v0), (G0), (x0), (H0), (y0), (I0), (z0), (J0), (B0), (K0), (C0), (L0), (D0), (M0), (E0), (O0), (u0), (F0), q, (by omega), (s.out (k := 113) q), (s.out (k := 114) q), (s.out (k := 115) q), (s.out (k := 116) q), (s.out (k := 117) q), (s.out (k := 118) q), (s.out (k := 119) q), (s.out (k := 120) q), (s.out (k := 121) q)⟩
theorem c_slices_Index_string (n : Nat) (M : Bs) (w0 : World) (hM : bM M w0) (s_ : (List (List UInt8))) (b0 : OA) (c0 : Nat) (m0 : sR Rep.str M w0 b0 c0 s_) (v_ : (List UInt8)) (p0 : (v_).length ≤ 9223372036854775807) (r : Int) (hg : slices_Index_string n s_ v_ = some r) :
    CA Tryz.prog 67 [sl b0 s_ c0, vT v_] w0 (fun v w => v = .int .i64 (r)) := by
 unfold slices_Index_string at hg
 refine enter M noB func67 q q hM ?_
 intro a s
 refine S s<|esw 101 m0<|vw<|aw q<|nw<|sw<|vw<|mw q<|yw q (lS · q u25)<|mw q<|nw<|bw fun a s => ?_
 refine c_loop (σ := Nat) (fun m1 a w => ∃ (a0 : Nat), slices_Index_string_L0 n s_ v_ m1 a0 = some r ∧ St (cx f67 M w0) [(0, sl b0 s_ c0), (1, vT v_), (7, vI ((((s_).length : Nat) : Int))), (8, vI (((a0 : Nat) : Int)))] [] [(101, sF Rep.str b0 c0 s_)] a w) (fun m1 => m1) n ⟨(0), hg, (s.sb q q q)⟩ ?_
 clear s a; rintro m1 a w ⟨a0, hg, s⟩
 rcases m1 with _ | m1
 ·rw [slices_Index_string_L0] at hg; cases hg
 rw [slices_Index_string_L0] at hg
 refine S s<|vw<|yw q (y_lssN (i := a0) (j := ((s_).length)) · q q)<|nw<|sw fun a s => c_dec s q (fun d0 => ?_) (fun d0 => ?_)
 ·replace hg := br_t hg d0
  have o0 := SlR.mx (s.ft 101 q)
  obtain ⟨x5, g0, hg⟩ := zB hg
  refine S s<|kw<|pw<|sw<|bw<|vw<|mw q<|aw q<|nw<|sw<|lw<|mw q<|mw q<|mw q fun a s => ?_
  obtain ⟨p7, j0, k0, l0, n0, i0, h0⟩ := SlR.elemX (s.ft 101 q) g0
  refine qq s q (eL 1 a0 s u25 j0 (lt_of_get g0) q) fun a s => ?_
  obtain ⟨rfl, q0⟩ := i0
  refine S s<|yw q (lP · k0 l0 (h0 0 _ q) u9 q)<|yw q (y_seq · q q)<|nw fun a s => c_dec s q (fun e0 => ?_) (fun e0 => ?_)
  ·replace hg := br_t hg e0
   refine S s<|vw<|mw q<|aw q<|nw fun a s => ?_
   apply wp_ret
   refine p_inR ?_
   refine p_thenR ?_
   refine p_thenR ?_
   refine p_inR ?_
   refine p_thenR ?_
   obtain rfl := si hg
   exact fT f67 s q q q
  replace hg := br_f hg e0
  apply wp_skip
  refine p_inN ?_
  refine S s<|pw<|lw<|yw q (y_addN (i := a0) (j := 1) · q q (in64.2 (by omega)))<|mw q<|nw fun a s => ?_
  exact ⟨m1, Nat.lt_succ_self _, ⟨(a0 + 1), hg, (s.sb q q q)⟩⟩
 replace hg := br_f hg d0
 apply wp_exit
 refine p_then ?_
 refine p_then ?_
 refine p_in ?_
 refine S s<|pw<|vw<|aw q<|nw fun a s => ?_
 apply wp_ret
 obtain rfl := si hg
 exact fT f67 s q q q
theorem c_slices_Contains_string (n : Nat) (M : Bs) (w0 : World) (hM : bM M w0) (s_ : (List (List UInt8))) (a0 : OA) (b0 : Nat) (c0 : sR Rep.str M w0 a0 b0 s_) (v_ : (List UInt8)) (e0 : (v_).length ≤ 9223372036854775807) (r : Bool) (hg : slices_Contains_string n s_ v_ = some r) :
    CA Tryz.prog 40 [sl a0 s_ b0, vT v_] w0 (fun v w => v = .bool (r)) := by
 unfold slices_Contains_string at hg
 refine enter M noB func40 q q hM ?_
 intro a s
 obtain ⟨r1, d0, hg⟩ := zB hg
 refine S s<|esw 101 c0<|vw<|aw q<|nw<|sw<|lw<|mw q<|mw q fun a s => ?_
 refine lV s q func67 (c_slices_Index_string n _ _ s.lt _ _ _ (s.ft 101 q) _ (by omega) _ d0) fun a w hK s => ?_
 refine S s<|yw q (y_geq · q q)<|aw q<|nw fun a s => ?_
 apply wp_ret
 obtain rfl := si hg
 exact fT f40 s q q q
theorem c_module_needs (n : Nat) (M : Bs) (w0 : World) (hM : bM M w0) (t_ : (List Module)) (d0 : OA) (e0 : Nat) (e2 : sR RModule M w0 d0 e0 t_) (t_' : (List UInt8)) (a3 : (t_').length ≤ 9223372036854775807) (r : (List (List UInt8))) (hg : module_needs n t_ t_' = some r) :
    CA Tryz.prog 25 [sl d0 t_ e0, vT t_'] w0 (fun v w => ∃ (B0 : OA), ∃ (C0 : Nat), v = sl B0 r C0 ∧ (SlR Rep.str M w B0 (r).length C0 (r))) := by
 unfold module_needs at hg
 refine enter M noB func25 q q hM ?_
 intro a s
 obtain ⟨r1, g2, hg⟩ := zB hg
 refine S s<|esw 101 e2<|vw<|aw q<|nw<|sw<|sw<|lw<|mw q<|mw q fun a s => ?_
 refine lC s q func27 (c_module_find n _ _ s.lt _ _ _ (s.ft 101 q) _ (by omega) _ g2) fun v5 a w hK hp s => ?_
 obtain ⟨d1, J1, e1, K1, g1, L1, h1, M1, i1, O1, j1, P1, k1, Q1, l1, R1, c1, I1, rfl, e3, G2, H2, I2, J2, K2, L2, M2, O2, F2⟩ := hp
 refine S s<|nsw 111 G2<|nsw 112 H2<|nsw 113 I2<|nsw 114 J2<|nsw 115 K2<|nsw 116 L2<|nsw 117 M2<|nsw 118 O2<|nsw 119 F2<|mw q<|yw q (y_extract · q q)<|yw q (y_extract · q q) fun a s => ?_
 refine l_seq q (l_alloc (zs := [vT ([]), nS, nS, nS, nS, nS, nS, nS, nS, nS]) s 1106 q q q q fun b7 a w hb hK s => ?_)
 refine l_seq q (l_store (n := 10) (cs' := [vT r1.1.Name, sl d1 r1.1.Imports J1, sl e1 r1.1.Types K1, sl g1 r1.1.Templates L1, sl h1 r1.1.Entries M1, sl i1 r1.1.LexRules O1, sl j1 r1.1.Rules P1, sl k1 r1.1.Roots Q1, sl l1 r1.1.Checks R1, sl c1 r1.1.Drops I1]) s 1106 q q q q q q q q ?_); clear s; intro w hK s; clear hK
 refine S s<|aw q<|nw<|vw<|mw q<|yw q (y_not · q)<|nw fun a s => c_cond s q (fun y0 => ?_) (fun y0 => ?_)
 ·replace hg := br_t hg y0
  refine S s<|vw<|aw q<|nw fun a s => ?_
  apply wp_ret
  refine p_thenR ?_
  obtain rfl := si hg
  refine fin1 (fn := Tryz.f25) s q (r_tmp s q) ?_
  exact ⟨(none), (0), q, (SlR.nil_ _ _ _)⟩
 replace hg := br_n hg y0
 refine S s<|kw<|pw<|vw<|mw q fun a s => ?_
 refine l_seq q (l_buildDense (sz := 1) s 1401 q q q u25 q q q q q q q fun n1 a w T1 hK s => ?_)
 clear T1
 refine S s<|aw q<|nw<|sw<|vw<|aw q<|nw<|bw fun a s => ?_
 replace s := s.add 122 (rdF Rep.str (cellsOfL [vT (t_')]) ([t_'])) (RdAll.cons (by exact ⟨q, (by omega)⟩) (rN))
 replace s := s.al 121 122 q
 replace s := s.pk [(1106, 1106), (700120, 1401)] (by decide)
 refine c_loop (σ := Nat) (fun m1 a w => ∃ (l0 : (List (List UInt8))) (g0 : Nat) (A12 : OA) (o0 : Nat) (s0 : List Value), module_needs_L0 n t_ m1 l0 g0 = some r ∧ St (cx f25 M w0) [(0, sl d0 t_ e0), (7, sl A12 l0 o0), (8, vI (((g0 : Nat) : Int)))] [(700120, Ob.row (A12) ((l0).length) (o0) 9 1 (s0))] [(101, sF RModule d0 e0 t_), (121, rdF Rep.str (s0) (l0))] a w) (fun m1 => m1) n ⟨([t_']), (0), (some ⟨n1, 0, none⟩), (1), (cellsOfL [vT (t_')]), hg, (s.sb q q q)⟩ ?_
 clear s a; rintro m1 a w ⟨l0, g0, A12, o0, s0, hg, s⟩
 rcases m1 with _ | m1
 ·rw [module_needs_L0] at hg; cases hg
 rw [module_needs_L0] at hg
 refine S s<|sw<|vw<|mw q<|mw q<|yw q (lS · q u25)<|yw q (y_lssN (i := g0) (j := ((l0).length)) · q q)<|nw fun a s => c_dec s q (fun u0 => ?_) (fun u0 => ?_)
 ·replace hg := br_t hg u0
  have Y2 := row_mx (s.wd.holds 700120 _ q)
  apply wp_skip
  apply pN
  apply wQ
  obtain ⟨H0, hg, a2⟩ := zJ hg
  refine c_post (fun a w => ∃ (m0 : (List (List UInt8))) (A20 : OA) (r0 : Nat) (t0 : List Value), H0 m0 = some r ∧ St (cx f25 M w0) [(0, sl d0 t_ e0), (7, sl A20 m0 r0), (8, vI (((g0 : Nat) : Int)))] [(700123, Ob.row (A20) ((m0).length) (r0) 9 1 (t0))] [(101, sF RModule d0 e0 t_), (124, rdF Rep.str (t0) (m0))] a w) ?_ ?_
  ·obtain ⟨k3, F0, hg⟩ := zB hg
   obtain ⟨a0, h2, hg⟩ := zB hg
   refine S s<|bw<|sw<|lw<|mw q<|mw q<|mw q fun a s => ?_
   obtain ⟨Z1, V2, D0⟩ := SlR.row1 (s.wd.holds 700120 _ q) (s.ft 121 q) q q F0
   refine qq s q (y_rowIndex (sz := 1) (i := g0) s q q u25 q D0 q Z1) fun a s => ?_
   have P2 := (s.ft 121 q).at_ _ _ F0
   obtain ⟨S1, g3⟩ := P2
   refine qq s q (y_loadRow1 (kk := 700120) s q q D0 (take1 S1) u9 q) fun a s => ?_
   refine lC s q func27 (c_module_find n _ _ s.lt _ _ _ (s.ft 101 q) _ (by omega) _ h2) fun i3 a w hK hp s => ?_
   obtain ⟨n0, p0, K0, q1, L0, s1, M0, t1, O0, u1, P0, v1, Q0, w1, R0, x1, J0, p1, rfl, c3, n2, o2, p2, q2, r2, s2, t2, u2, l2⟩ := hp
   refine S s<|nsw 134 n2<|nsw 135 o2<|nsw 136 p2<|nsw 137 q2<|nsw 138 r2<|nsw 139 s2<|nsw 140 t2<|nsw 141 u2<|nsw 142 l2<|mw q<|yw q (y_extract · q q)<|yw q (y_extract · q q) fun a s => ?_
   refine l_seq q (l_alloc (zs := [vT ([]), nS, nS, nS, nS, nS, nS, nS, nS, nS]) s 1809 q q q q fun S2 a w hb hK s => ?_)
   refine l_seq q (l_store (n := 10) (cs' := [vT a0.1.Name, sl n0 a0.1.Imports p0, sl K0 a0.1.Types q1, sl L0 a0.1.Templates s1, sl M0 a0.1.Entries t1, sl O0 a0.1.LexRules u1, sl P0 a0.1.Rules v1, sl Q0 a0.1.Roots w1, sl R0 a0.1.Checks x1, sl J0 a0.1.Drops p1]) s 1809 q q q q q q q q ?_); clear s; intro w hK s; clear hK
   refine S s<|aw q<|nw<|vw<|yw q (bF 1 · u38 q)<|yw q (lB 1809 · u25 q)<|yw q (lS · q u25)<|mw q<|nw<|bw<|alw 144 121 q fun a s => ?_
   replace s := s.pk [(1809, 1809), (700143, 700120)] (by decide)
   refine c_loop (σ := Nat) (fun m2 a w => ∃ (b0 : (List (List UInt8))) (h0 : Nat) (A36 : OA) (k0 : Nat) (i0 : List Value), module_needs_L1 n t_ H0 a0 m2 b0 h0 = some r ∧ St (cx f25 M w0) [(0, sl d0 t_ e0), (7, sl A36 b0 k0), (8, vI (((g0 : Nat) : Int))), (41, sl n0 a0.1.Imports p0), (42, vI ((((a0.1.Imports).length : Nat) : Int))), (43, vI (((h0 : Nat) : Int)))] [(700143, Ob.row (A36) ((b0).length) (k0) 9 1 (i0))] [(101, sF RModule d0 e0 t_), (134, sF Rep.str n0 p0 a0.1.Imports), (144, rdF Rep.str (i0) (b0))] a w) (fun m2 => m2) n ⟨(l0), (0), (A12), (o0), (s0), hg, (s.sb q q q)⟩ ?_
   clear s a; rintro m2 a w ⟨b0, h0, A36, k0, i0, hg, s⟩
   rcases m2 with _ | m2
   ·rw [module_needs_L1] at hg; cases hg
   rw [module_needs_L1] at hg
   refine S s<|vw<|yw q (y_lssN (i := h0) (j := ((a0.1.Imports).length)) · q q)<|nw<|sw fun a s => c_dec s q (fun v0 => ?_) (fun v0 => ?_)
   ·replace hg := br_t hg v0
    have Z2 := SlR.mx (s.ft 134 q)
    obtain ⟨j0, G0, hg⟩ := zB hg
    refine S s<|kw<|pw<|sw<|bw<|sw<|lw fun a s => ?_
    obtain ⟨h3, Y1, c2, d2, X2, X1, V1⟩ := SlR.elemX (s.ft 134 q) G0
    refine qq s q (eL 1 h0 s u25 Y1 (lt_of_get G0) q) fun a s => ?_
    obtain ⟨rfl, b3⟩ := X1
    obtain ⟨c0, i2, hg⟩ := zB hg
    refine S s<|yw q (lP · c2 d2 (V1 0 _ q) u9 q)<|aw q<|nw<|sw<|lw<|mw q<|mw q fun a s => ?_
    refine lC s q func27 (c_module_find n _ _ s.lt _ _ _ (s.ft 101 q) _ (by omega) _ i2) fun j3 a w hK hp s => ?_
    obtain ⟨T0, z1, U0, B1, V0, C1, X0, D1, Y0, E1, Z0, F1, a1, G1, b1, H1, S0, y1, rfl, d3, w2, x2, y2, z2, B2, C2, D2, E2, v2⟩ := hp
    refine S s<|nsw 154 w2<|nsw 155 x2<|nsw 156 y2<|nsw 157 z2<|nsw 158 B2<|nsw 159 C2<|nsw 160 D2<|nsw 161 E2<|nsw 162 v2<|mw q<|yw q (y_extract · q q)<|yw q (y_extract · q q) fun a s => ?_
    refine l_seq q (l_alloc (zs := [vT ([]), nS, nS, nS, nS, nS, nS, nS, nS, nS]) s 2206 q q q q fun T2 a w hb hK s => ?_)
    refine l_seq q (l_store (n := 10) (cs' := [vT c0.1.Name, sl T0 c0.1.Imports z1, sl U0 c0.1.Types B1, sl V0 c0.1.Templates C1, sl X0 c0.1.Entries D1, sl Y0 c0.1.LexRules E1, sl Z0 c0.1.Rules F1, sl a1 c0.1.Roots G1, sl b1 c0.1.Checks H1, sl S0 c0.1.Drops y1]) s 2206 q q q q q q q q ?_); clear s; intro w hK s; clear hK
    refine S s<|aw q<|nw<|sw fun a s => ?_
    obtain ⟨Q2, hg, b2⟩ := zJ hg
    refine c_post (fun a w => ∃ (z0 : Bool), Q2 z0 = some r ∧ St (cx f25 M w0) [(0, sl d0 t_ e0), (7, sl A36 b0 k0), (8, vI (((g0 : Nat) : Int))), (12, vT j0), (41, sl n0 a0.1.Imports p0), (42, vI ((((a0.1.Imports).length : Nat) : Int))), (43, vI (((h0 : Nat) : Int))), (59, .bool (z0))] [(700143, Ob.row (A36) ((b0).length) (k0) 9 1 (i0))] [(101, sF RModule d0 e0 t_), (134, sF Rep.str n0 p0 a0.1.Imports), (144, rdF Rep.str (i0) (b0))] a w) ?_ ?_
    ·rcases Bool.eq_false_or_eq_true (c0.2) with q0 | q0
     ·replace hg := br_t hg q0
      obtain ⟨R2, j2, hg⟩ := zB hg
      refine S s<|lw<|yw q (fun s => yl_b (mo s q) q0)<|mw q<|hw q<|hw q fun a s => ?_
      have hT := s
      replace hT := hT.fz (R := Rep.str) (kk := 700143) [2206] 164 q q (hT.ft 144 q) q
      refine gV s q func40 (c_slices_Contains_string n _ _ hT.lt _ _ _ (hT.ft 164 q) _ (by omega) _ j2) fun a w hK s => ?_
      refine S s<|zw q (y_not · q)<|tw_ q<|nw fun a s => ?_
      exact ⟨(!(R2)), hg, (s.sb q q q)⟩
     replace hg := br_n hg q0
     refine S s<|lw<|yw q (fun s => yl_b (mo s q) q0)<|mw q<|gw q<|gw q<|gw q<|gw q<|fw q<|nw fun a s => ?_
     exact ⟨(false), hg, (s.sb q q q)⟩
    clear s a; rintro a w ⟨z0, hg, s⟩
    subst b2
    refine c_cond s q (fun x0 => ?_) (fun x0 => ?_)
    ·replace hg := br_t hg x0
     obtain ⟨E0, hg⟩ := zC hg
     refine S s<|lw<|mw q<|mw q fun a s => ?_
     refine l_seq q (l_buildDense (sz := 1) s 2402 q q q u25 q q q q q q q fun U2 a w U1 hK s => ?_)
     clear U1
     replace s := s.add 167 (rdF Rep.str (cellsOfL [vT j0]) ([j0])) (RdAll.cons (by exact ⟨q, (by omega)⟩) (rN))
     have k2 := row_src (s.wd.holds 2402 _ q) (RdAll.one (s.ft 167 q))
     refine l_seq q (l_append (sz := 1) (by_ := 16) (N := (b0 ++ [j0]).length) s 700143 q q q u25 q q q q q k2 (by rw [List.length_append]; try rfl) q (rmA E0 q) (rmB E0) q fun I0 o1 a w hA hK s => ?_)
     replace s := s.add 168 (rdF Rep.str (i0 ++ (cellsOfL [vT j0])) (b0 ++ [j0])) (RdAll.append (s.ft 144 q) (s.ft 167 q))
     refine asg s q q fun a s => ?_
     apply wO
     refine p_inN ?_
     refine S s<|pw<|lw<|yw q (y_addN (i := h0) (j := 1) · q q (in64.2 (by omega)))<|mw q<|nw<|alw 144 168 q fun a s => ?_
     exact ⟨m2, Nat.lt_succ_self _, ⟨(b0 ++ [j0]), (h0 + 1), (I0), (o1), (i0 ++ (cellsOfL [vT j0])), hg, (s.sb q q q)⟩⟩
    replace hg := br_n hg x0
    apply wp_skip
    refine p_inN ?_
    refine S s<|pw<|lw<|yw q (y_addN (i := h0) (j := 1) · q q (in64.2 (by omega)))<|mw q<|nw<|alw 144 144 q fun a s => ?_
    exact ⟨m2, Nat.lt_succ_self _, ⟨(b0), (h0 + 1), (A36), (k0), (i0), hg, (s.sb q q q)⟩⟩
   replace hg := br_f hg v0
   apply wp_exit
   refine p_then ?_
   refine p_then ?_
   refine p_in ?_
   refine p_inN ?_
   apply pN
   replace s := s.al 124 144 q
   replace s := s.pk [(700123, 700143)] (by decide)
   exact ⟨(b0), (A36), (k0), (i0), hg, (s.sb q q q)⟩
  clear s a; rintro a w ⟨m0, A20, r0, t0, hg, s⟩
  subst a2
  refine S s<|lw<|mw q<|yw q (y_addN (i := g0) (j := 1) · q q (in64.2 (by omega)))<|aw q<|nw<|alw 121 124 q fun a s => ?_
  replace s := s.pk [(700120, 700123)] (by decide)
  exact ⟨m1, Nat.lt_succ_self _, ⟨(m0), (g0 + 1), (A20), (r0), (t0), hg, (s.sb q q q)⟩⟩
 replace hg := br_f hg u0
 apply wp_exit
 refine p_then ?_
 refine p_then ?_
 refine p_in ?_
 refine S s<|pw<|vw<|mw q<|aw q<|nw fun a s => ?_
 apply wp_ret
 obtain rfl := si hg
 refine fin1 (fn := Tryz.f25) s q (r_tmp s q) ?_
 exact ⟨(A12), (o0), q, (s.rowOut (R := Rep.str) (kk := 700120) q q (s.ft 121 q))⟩
theorem c_module_check (n : Nat) (M : Bs) (w0 : World) (hM : bM M w0) (t_ : (List Module)) (b0 : OA) (c0 : Nat) (Q3 : sR RModule M w0 b0 c0 t_) (t_' : (List UInt8)) (k6 : (t_').length ≤ 9223372036854775807) (r : Int) (hg : module_check n t_ t_' = some r) :
    CA Tryz.prog 24 [sl b0 t_ c0, vT t_'] w0 (fun v w => v = .int .i64 (r)) := by
 unfold module_check at hg
 refine enter M noB func24 q q hM ?_
 intro a s
 refine S s<|esw 101 Q3<|vw<|aw q<|nw<|sw<|vw<|mw q<|yw q (lS · q u22)<|mw q<|nw fun a s => ?_
 obtain ⟨k1, hg, z3⟩ := zJ hg
 refine c_post (fun a w => k1 = some r ∧ St (cx f24 M w0) [(0, sl b0 t_ c0), (1, vT (t_'))] [] [(101, sF RModule b0 c0 t_)] a w) ?_ ?_
 ·apply wp_block
  refine c_loop (σ := Nat) (fun m1 a w => ∃ (j0 : Nat), module_check_L0 n t_ k1 m1 j0 = some r ∧ St (cx f24 M w0) [(0, sl b0 t_ c0), (1, vT (t_')), (26, vI ((((t_).length : Nat) : Int))), (27, vI (((j0 : Nat) : Int)))] [] [(101, sF RModule b0 c0 t_)] a w) (fun m1 => m1) n ⟨(0), hg, (s.sb q q q)⟩ ?_
  clear s a; rintro m1 a w ⟨j0, hg, s⟩
  rcases m1 with _ | m1
  ·rw [module_check_L0] at hg; cases hg
  rw [module_check_L0] at hg
  refine S s<|vw<|yw q (y_lssN (i := j0) (j := ((t_).length)) · q q)<|nw<|sw fun a s => c_dec s q (fun x0 => ?_) (fun x0 => ?_)
  ·replace hg := br_t hg x0
   have d6 := SlR.mx (s.ft 101 q)
   refine S s<|kw<|pw<|sw<|bw<|vw<|mw q<|aw q<|nw<|sw fun a s => ?_
   obtain ⟨k5, hg, D3⟩ := zJ hg
   refine c_post (fun a w => ∃ (G0 : Bool), k5 G0 = some r ∧ St (cx f24 M w0) [(0, sl b0 t_ c0), (1, vT (t_')), (7, .bool (G0)), (26, vI ((((t_).length : Nat) : Int))), (27, vI (((j0 : Nat) : Int)))] [] [(101, sF RModule b0 c0 t_)] a w) ?_ ?_
   ·obtain ⟨K0, hg⟩ := zC hg
    obtain ⟨x9, F0, hg⟩ := zB hg
    obtain ⟨d0, L0, hg⟩ := zB hg
    refine d_steps s [] q ?_; clear s; intro wr hZ s; have hR := s.wd; have hE := fun g => Ext.init hR g
    refine S s<|nqw 0 0 hR q (mo · q)<|nqw 1 0 hR q (mo · q) fun a s => ?_
    have i3 := (s.ft 101 q).cap
    refine S s<|nqw 2 0 hR q (y_cutH (xs := t_) (sz := 10) (i := j0) · q q u22 q q K0 i3) fun a s => ?_
    replace s := s.add 121 (sF RModule b0 c0 ((t_).take j0)) (SlR.cutH (s.ft 101 q) j0 K0)
    refine S s<|nqw 3 0 hR q (mo · q)<|nqw 4 0 hR q (mo · q) fun a s => ?_
    obtain ⟨w6, J0, j6⟩ := SlR.elemX (s.ft 101 q) F0
    refine S s<|nqw 5 0 hR q (eL 10 j0 · u22 J0 (lt_of_get F0) q)<|nqw 6 0 hR q (pF 0 · u38 q) fun a s => ?_
    obtain ⟨F3, K3, X5, p3, j3⟩ := (SlR.again (s.ft 101 q) F0 J0)
    obtain ⟨w5, O5, x5, P5, y5, Q5, z5, R5, B5, S5, C5, T5, D5, U5, E5, V5, v5, M5, rfl, l6, S3, T3, U3, V3, X3, Y3, Z3, a4, R3⟩ := RModule.open p3
    refine S s<|nsw 122 S3<|nsw 123 T3<|nsw 124 U3<|nsw 125 V3<|nsw 126 X3<|nsw 127 Y3<|nsw 128 Z3<|nsw 129 a4<|nsw 130 R3<|nqw 7 0 hR q (lP · F3 K3 (j3 0 _ q) u9 q) fun a s => ?_
    refine n_2 8 12 s (by kernel_rfl) q q q q ?_ ?_
    ·refine l_call (cap := []) s q func27 q (by kernel_rfl) q q (c_module_find n _ _ s.lt _ _ _ (s.ft 121 q) _ (by omega) _ L0) fun F6 a w hK hp s => ?_
     refine gA hE hZ hK fun hE hZ => ?_; clear hK
     obtain ⟨X0, d2, Y0, e2, Z0, g2, a1, h2, b1, i2, c1, j2, d1, k2, e1, l2, V0, c2, rfl, q6, l4, n4, o4, p4, q4, r4, s4, t4, k4⟩ := hp
     refine S s<|nsw 131 l4<|nsw 132 n4<|nsw 133 o4<|nsw 134 p4<|nsw 135 q4<|nsw 136 r4<|nsw 137 s4<|nsw 138 t4<|nsw 139 k4<|new 9 (hE 0) q (fun w' s => y_move s q)<|new 10 (hE 0) q (fun w' s => y_extract s q q)<|new 11 (hE 0) q (fun w' s => y_extract s q q) fun a s => ?_
     refine n_1 12 s (by kernel_rfl) q q (l_alloc (zs := [vT ([]), nS, nS, nS, nS, nS, nS, nS, nS, nS]) s 1412 q q q q fun G5 a w hb hK s => ?_)
     have H0 := Nat.le_trans hZ hb
     refine gA hE hZ hK fun hE hZ => ?_; clear hK
     refine n_1 13 s (by kernel_rfl) q q (l_store (n := 10) (cs' := [vT d0.1.Name, sl X0 d0.1.Imports d2, sl Y0 d0.1.Types e2, sl Z0 d0.1.Templates g2, sl a1 d0.1.Entries h2, sl b1 d0.1.LexRules i2, sl c1 d0.1.Rules j2, sl d1 d0.1.Roots k2, sl e1 d0.1.Checks l2, sl V0 d0.1.Drops c2]) s 1412 q q q q q q q q ?_); clear s; intro w hK s; replace hZ := Nat.le_trans hZ hK.size
     replace hE := fun g => (hE g).app hR hK (fun x e => by cases e; exact H0); refine ⟨fun g _ h => h.app hR hK (fun x e => by cases e; exact H0), ?_⟩; clear hK
     refine S s<|nzw 14 q (y_assign · q) fun a s => ?_
     refine n_end (by kernel_rfl) ?_; clear hR hZ hE
     apply pN
     exact ⟨(d0.2), hg, (s.sb q q q)⟩
    ·refine l_alloc (zs := [vT ([]), nS, nS, nS, nS, nS, nS, nS, nS, nS]) s 1412 q q q q fun H5 a w hb hK s => ?_
     have I0 := Nat.le_trans hZ hb
     refine gA hE hZ hK fun hE hZ => ?_; clear hK
     refine nC 8 s q q func27 (c_module_find n _ _ s.lt _ _ _ (s.ft 121 q) _ (by omega) _ L0) fun G6 a w hK hp s => ?_
     refine gA hE hZ hK fun hE hZ => ?_; clear hK
     obtain ⟨h1, o2, i1, p2, j1, q2, l1, r2, n1, s2, o1, t2, p1, u2, q1, v2, g1, n2, rfl, r6, w4, x4, y4, z4, B4, C4, D4, E4, v4⟩ := hp
     refine S s<|nsw 140 w4<|nsw 141 x4<|nsw 142 y4<|nsw 143 z4<|nsw 144 B4<|nsw 145 C4<|nsw 146 D4<|nsw 147 E4<|nsw 148 v4<|nzw 9 q (mo · q)<|new 10 (hE 0) q (fun w' s => y_extract s q q)<|new 11 (hE 0) q (fun w' s => y_extract s q q) fun a s => ?_
     refine n_1 13 s (by kernel_rfl) q q (l_store (n := 10) (cs' := [vT d0.1.Name, sl h1 d0.1.Imports o2, sl i1 d0.1.Types p2, sl j1 d0.1.Templates q2, sl l1 d0.1.Entries r2, sl n1 d0.1.LexRules s2, sl o1 d0.1.Rules t2, sl p1 d0.1.Roots u2, sl q1 d0.1.Checks v2, sl g1 d0.1.Drops n2]) s 1412 q q q q q q q q ?_); clear s; intro w hK s; replace hZ := Nat.le_trans hZ hK.size
     replace hE := fun g => (hE g).app hR hK (fun x e => by cases e; exact I0); refine ⟨fun g _ h => h.app hR hK (fun x e => by cases e; exact I0), ?_⟩; clear hK
     refine S s<|nzw 14 q (y_assign · q) fun a s => ?_
     refine n_end (by kernel_rfl) ?_; clear hR hZ hE
     apply pN
     exact ⟨(d0.2), hg, (s.sb q q q)⟩
   clear s a; rintro a w ⟨G0, hg, s⟩
   subst D3
   refine S s<|vw<|mw q<|nw fun a s => c_cond s q (fun v0 => ?_) (fun v0 => ?_)
   ·replace hg := br_t hg v0
    refine S s<|vw<|aw q<|nw fun a s => ?_
    apply wp_ret
    refine p_inR ?_
    refine p_thenR ?_
    refine p_thenR ?_
    refine p_inR ?_
    refine p_thenR ?_
    obtain rfl := si hg
    exact fT f24 s q q q
   replace hg := br_n hg v0
   apply wp_skip
   refine p_inN ?_
   refine S s<|pw<|lw<|yw q (y_addN (i := j0) (j := 1) · q q (in64.2 (by omega)))<|mw q<|nw fun a s => ?_
   exact ⟨m1, Nat.lt_succ_self _, ⟨(j0 + 1), hg, (s.sb q q q)⟩⟩
  replace hg := br_f hg x0
  apply wp_exit
  refine p_then ?_
  refine p_then ?_
  refine p_in ?_
  apply pN
  exact ⟨hg, (s.sb q q q)⟩
 clear s a; rintro a w ⟨hg, s⟩
 subst z3
 obtain ⟨k0, b4, hg⟩ := zB hg
 refine S s<|sw<|sw<|lw<|mw q<|mw q fun a s => ?_
 refine lC s q func27 (c_module_find n _ _ s.lt _ _ _ (s.ft 101 q) _ (by omega) _ b4) fun H6 a w hK hp s => ?_
 obtain ⟨s1, x2, t1, y2, u1, z2, v1, B2, w1, C2, x1, D2, y1, E2, z1, F2, r1, w2, rfl, s6, G4, H4, I4, J4, K4, L4, M4, O4, F4⟩ := hp
 refine S s<|nsw 158 G4<|nsw 159 H4<|nsw 160 I4<|nsw 161 J4<|nsw 162 K4<|nsw 163 L4<|nsw 164 M4<|nsw 165 O4<|nsw 166 F4<|mw q<|yw q (y_extract · q q)<|yw q (y_extract · q q) fun a s => ?_
 refine l_seq q (l_alloc (zs := [vT ([]), nS, nS, nS, nS, nS, nS, nS, nS, nS]) s 1806 q q q q fun I5 a w hb hK s => ?_)
 refine l_seq q (l_store (n := 10) (cs' := [vT k0.1.Name, sl s1 k0.1.Imports x2, sl t1 k0.1.Types y2, sl u1 k0.1.Templates z2, sl v1 k0.1.Entries B2, sl w1 k0.1.LexRules C2, sl x1 k0.1.Rules D2, sl y1 k0.1.Roots E2, sl z1 k0.1.Checks F2, sl r1 k0.1.Drops w2]) s 1806 q q q q q q q q ?_); clear s; intro w hK s; clear hK
 refine S s<|aw q<|nw<|vw<|mw q<|yw q (y_not · q)<|nw fun a s => c_cond s q (fun y0 => ?_) (fun y0 => ?_)
 ·replace hg := br_t hg y0
  refine S s<|vw<|aw q<|nw fun a s => ?_
  apply wp_ret
  refine p_thenR ?_
  obtain rfl := si hg
  exact fT f24 s q q q
 replace hg := br_n hg y0
 obtain ⟨a0, c4, hg⟩ := zB hg
 refine S s<|kw<|pw<|sw<|lw<|mw q<|mw q fun a s => ?_
 refine lC s q func25 (c_module_needs n _ _ s.lt _ _ _ (s.ft 101 q) _ (by omega) _ c4) fun I6 a w hK hp s => ?_
 obtain ⟨e0, g0, rfl, P4⟩ := hp
 refine S s<|nsw 168 P4<|aw q<|nw<|sw<|vw<|mw q<|yw q (lS · q u25)<|mw q<|nw fun a s => ?_
 obtain ⟨R0, hg, B3⟩ := zJ hg
 refine c_post (fun a w => R0 = some r ∧ St (cx f24 M w0) [(0, sl b0 t_ c0), (10, sl e0 a0 g0)] [] [(101, sF RModule b0 c0 t_), (168, sF Rep.str e0 g0 a0)] a w) ?_ ?_
 ·apply wp_block
  refine c_loop (σ := Nat) (fun m2 a w => ∃ (m0 : Nat), module_check_L1 n t_ a0 R0 m2 m0 = some r ∧ St (cx f24 M w0) [(0, sl b0 t_ c0), (10, sl e0 a0 g0), (55, sl e0 a0 g0), (56, vI ((((a0).length : Nat) : Int))), (57, vI (((m0 : Nat) : Int)))] [] [(101, sF RModule b0 c0 t_), (168, sF Rep.str e0 g0 a0)] a w) (fun m2 => m2) n ⟨(0), hg, (s.sb q q q)⟩ ?_
  clear s a; rintro m2 a w ⟨m0, hg, s⟩
  rcases m2 with _ | m2
  ·rw [module_check_L1] at hg; cases hg
  rw [module_check_L1] at hg
  refine S s<|vw<|yw q (y_lssN (i := m0) (j := ((a0).length)) · q q)<|nw<|sw fun a s => c_dec s q (fun z0 => ?_) (fun z0 => ?_)
  ·replace hg := br_t hg z0
   have e6 := SlR.mx (s.ft 168 q)
   apply wp_skip
   apply pN
   apply wQ
   obtain ⟨S0, hg, C3⟩ := zJ hg
   refine c_post (fun a w => S0 = some r ∧ St (cx f24 M w0) [(0, sl b0 t_ c0), (10, sl e0 a0 g0), (55, sl e0 a0 g0), (56, vI ((((a0).length : Nat) : Int))), (57, vI (((m0 : Nat) : Int)))] [] [(101, sF RModule b0 c0 t_), (168, sF Rep.str e0 g0 a0)] a w) ?_ ?_
   ·obtain ⟨M6, M0, hg⟩ := zB hg
    apply wp_block
    apply wQ
    apply wL
    obtain ⟨x6, v3, G3, L3, Y5, q3, k3⟩ := SlR.elemX (s.ft 168 q) M0
    refine qq s q (eL 1 m0 s u25 v3 (lt_of_get M0) q) fun a s => ?_
    obtain ⟨rfl, m6⟩ := q3
    obtain ⟨h0, d4, hg⟩ := zB hg
    refine S s<|yw q (lP · G3 L3 (k3 0 _ q) u9 q)<|aw q<|nw<|sw<|lw<|mw q<|mw q fun a s => ?_
    refine lC s q func27 (c_module_find n _ _ s.lt _ _ _ (s.ft 101 q) _ (by omega) _ d4) fun J6 a w hK hp s => ?_
    obtain ⟨q0, s0, C1, H2, D1, I2, E1, J2, F1, K2, G1, L2, H1, M2, I1, O2, B1, G2, rfl, t6, R4, S4, T4, U4, V4, X4, Y4, Z4, Q4⟩ := hp
    refine S s<|nsw 178 R4<|nsw 179 S4<|nsw 180 T4<|nsw 181 U4<|nsw 182 V4<|nsw 183 X4<|nsw 184 Y4<|nsw 185 Z4<|nsw 186 Q4<|mw q<|yw q (y_extract · q q)<|yw q (y_extract · q q) fun a s => ?_
    refine l_seq q (l_alloc (zs := [vT ([]), nS, nS, nS, nS, nS, nS, nS, nS, nS]) s 2506 q q q q fun J5 a w hb hK s => ?_)
    refine l_seq q (l_store (n := 10) (cs' := [vT h0.1.Name, sl q0 h0.1.Imports s0, sl C1 h0.1.Types H2, sl D1 h0.1.Templates I2, sl E1 h0.1.Entries J2, sl F1 h0.1.LexRules K2, sl G1 h0.1.Rules L2, sl H1 h0.1.Roots M2, sl I1 h0.1.Checks O2, sl B1 h0.1.Drops G2]) s 2506 q q q q q q q q ?_); clear s; intro w hK s; clear hK
    refine S s<|aw q<|nw<|vw<|yw q (bF 1 · u38 q)<|yw q (lB 2506 · u25 q)<|yw q (lS · q u25)<|mw q<|nw<|bw fun a s => ?_
    refine c_loop (σ := Nat) (fun m3 a w => ∃ (o0 : Nat), module_check_L2 n t_ S0 h0 m3 o0 = some r ∧ St (cx f24 M w0) [(0, sl b0 t_ c0), (10, sl e0 a0 g0), (55, sl e0 a0 g0), (56, vI ((((a0).length : Nat) : Int))), (57, vI (((m0 : Nat) : Int))), (68, sl q0 h0.1.Imports s0), (69, vI ((((h0.1.Imports).length : Nat) : Int))), (70, vI (((o0 : Nat) : Int)))] [] [(101, sF RModule b0 c0 t_), (168, sF Rep.str e0 g0 a0), (178, sF Rep.str q0 s0 h0.1.Imports)] a w) (fun m3 => m3) n ⟨(0), hg, (s.sb q q q)⟩ ?_
    clear s a; rintro m3 a w ⟨o0, hg, s⟩
    rcases m3 with _ | m3
    ·rw [module_check_L2] at hg; cases hg
    rw [module_check_L2] at hg
    refine S s<|vw<|yw q (y_lssN (i := o0) (j := ((h0.1.Imports).length)) · q q)<|nw<|sw fun a s => c_dec s q (fun B0 => ?_) (fun B0 => ?_)
    ·replace hg := br_t hg B0
     have g6 := SlR.mx (s.ft 178 q)
     obtain ⟨O6, O0, hg⟩ := zB hg
     refine S s<|kw<|pw<|sw<|bw<|sw<|lw fun a s => ?_
     obtain ⟨y6, w3, H3, M3, Z5, r3, l3⟩ := SlR.elemX (s.ft 178 q) O0
     refine qq s q (eL 1 o0 s u25 w3 (lt_of_get O0) q) fun a s => ?_
     obtain ⟨rfl, n6⟩ := r3
     obtain ⟨l0, e4, hg⟩ := zB hg
     refine S s<|yw q (lP · H3 M3 (l3 0 _ q) u9 q)<|aw q<|nw<|sw<|lw<|mw q<|mw q fun a s => ?_
     refine lC s q func27 (c_module_find n _ _ s.lt _ _ _ (s.ft 101 q) _ (by omega) _ e4) fun K6 a w hK hp s => ?_
     obtain ⟨K1, Q2, L1, R2, M1, S2, O1, T2, P1, U2, Q1, V2, R1, X2, S1, Y2, J1, P2, rfl, u6, b5, c5, d5, e5, g5, h5, i5, j5, a5⟩ := hp
     refine S s<|nsw 196 b5<|nsw 197 c5<|nsw 198 d5<|nsw 199 e5<|nsw 200 g5<|nsw 201 h5<|nsw 202 i5<|nsw 203 j5<|nsw 204 a5<|mw q<|yw q (y_extract · q q)<|yw q (y_extract · q q) fun a s => ?_
     refine l_seq q (l_alloc (zs := [vT ([]), nS, nS, nS, nS, nS, nS, nS, nS, nS]) s 2906 q q q q fun K5 a w hb hK s => ?_)
     refine l_seq q (l_store (n := 10) (cs' := [vT l0.1.Name, sl K1 l0.1.Imports Q2, sl L1 l0.1.Types R2, sl M1 l0.1.Templates S2, sl O1 l0.1.Entries T2, sl P1 l0.1.LexRules U2, sl Q1 l0.1.Rules V2, sl R1 l0.1.Roots X2, sl S1 l0.1.Checks Y2, sl J1 l0.1.Drops P2]) s 2906 q q q q q q q q ?_); clear s; intro w hK s; clear hK
     refine S s<|aw q<|nw<|vw<|mw q<|yw q (y_not · q)<|nw fun a s => c_cond s q (fun C0 => ?_) (fun C0 => ?_)
     ·replace hg := br_t hg C0
      refine S s<|vw<|aw q<|nw fun a s => ?_
      apply wp_ret
      refine p_inR ?_
      refine p_thenR ?_
      refine p_thenR ?_
      refine p_inR ?_
      refine p_inR ?_
      refine p_thenR ?_
      refine p_thenR ?_
      refine p_inR ?_
      refine p_thenR ?_
      obtain rfl := si hg
      exact fT f24 s q q q
     replace hg := br_n hg C0
     apply wp_skip
     refine p_inN ?_
     refine S s<|pw<|lw<|yw q (y_addN (i := o0) (j := 1) · q q (in64.2 (by omega)))<|mw q<|nw fun a s => ?_
     exact ⟨m3, Nat.lt_succ_self _, ⟨(o0 + 1), hg, (s.sb q q q)⟩⟩
    replace hg := br_f hg B0
    apply wp_exit
    refine p_then ?_
    refine p_then ?_
    refine p_in ?_
    refine p_inN ?_
    apply pN
    exact ⟨hg, (s.sb q q q)⟩
   clear s a; rintro a w ⟨hg, s⟩
   subst C3
   refine S s<|lw<|yw q (y_addN (i := m0) (j := 1) · q q (in64.2 (by omega)))<|mw q<|nw fun a s => ?_
   exact ⟨m2, Nat.lt_succ_self _, ⟨(m0 + 1), hg, (s.sb q q q)⟩⟩
  replace hg := br_f hg z0
  apply wp_exit
  refine p_then ?_
  refine p_then ?_
  refine p_in ?_
  apply pN
  exact ⟨hg, (s.sb q q q)⟩
 clear s a; rintro a w ⟨hg, s⟩
 subst B3
 refine S s<|sw<|vw<|mw q<|yw q (lS · q u25)<|mw q<|nw<|bw fun a s => ?_
 refine c_loop (σ := Nat) (fun m4 a w => ∃ (n0 : Nat), module_check_L3 n t_ a0 m4 n0 = some r ∧ St (cx f24 M w0) [(0, sl b0 t_ c0), (84, sl e0 a0 g0), (85, vI ((((a0).length : Nat) : Int))), (86, vI (((n0 : Nat) : Int)))] [] [(101, sF RModule b0 c0 t_), (168, sF Rep.str e0 g0 a0)] a w) (fun m4 => m4) n ⟨(0), hg, (s.sb q q q)⟩ ?_
 clear s a; rintro m4 a w ⟨n0, hg, s⟩
 rcases m4 with _ | m4
 ·rw [module_check_L3] at hg; cases hg
 rw [module_check_L3] at hg
 refine S s<|vw<|yw q (y_lssN (i := n0) (j := ((a0).length)) · q q)<|nw<|sw fun a s => c_dec s q (fun D0 => ?_) (fun D0 => ?_)
 ·replace hg := br_t hg D0
  have h6 := SlR.mx (s.ft 168 q)
  apply wp_skip
  apply pN
  apply wQ
  obtain ⟨T0, hg, E3⟩ := zJ hg
  refine c_post (fun a w => T0 = some r ∧ St (cx f24 M w0) [(0, sl b0 t_ c0), (84, sl e0 a0 g0), (85, vI ((((a0).length : Nat) : Int))), (86, vI (((n0 : Nat) : Int)))] [] [(101, sF RModule b0 c0 t_), (168, sF Rep.str e0 g0 a0)] a w) ?_ ?_
  ·obtain ⟨U0, P0, hg⟩ := zB hg
   apply wp_block
   apply wQ
   apply wL
   obtain ⟨z6, x3, I3, O3, a6, s3, n3⟩ := SlR.elemX (s.ft 168 q) P0
   refine qq s q (eL 1 n0 s u25 x3 (lt_of_get P0) q) fun a s => ?_
   obtain ⟨rfl, o6⟩ := s3
   obtain ⟨i0, g4, hg⟩ := zB hg
   refine S s<|yw q (lP · I3 O3 (n3 0 _ q) u9 q)<|aw q<|nw<|sw<|lw<|mw q<|mw q fun a s => ?_
   refine lC s q func27 (c_module_find n _ _ s.lt _ _ _ (s.ft 101 q) _ (by omega) _ g4) fun L6 a w hK hp s => ?_
   obtain ⟨r0, t0, U1, a3, V1, b3, X1, c3, Y1, d3, Z1, e3, a2, g3, b2, h3, T1, Z2, rfl, v6, n5, o5, p5, q5, r5, s5, t5, u5, l5⟩ := hp
   refine S s<|nsw 214 n5<|nsw 215 o5<|nsw 216 p5<|nsw 217 q5<|nsw 218 r5<|nsw 219 s5<|nsw 220 t5<|nsw 221 u5<|nsw 222 l5<|mw q<|yw q (y_extract · q q)<|yw q (y_extract · q q) fun a s => ?_
   refine l_seq q (l_alloc (zs := [vT ([]), nS, nS, nS, nS, nS, nS, nS, nS, nS]) s 3706 q q q q fun L5 a w hb hK s => ?_)
   refine l_seq q (l_store (n := 10) (cs' := [vT i0.1.Name, sl r0 i0.1.Imports t0, sl U1 i0.1.Types a3, sl V1 i0.1.Templates b3, sl X1 i0.1.Entries c3, sl Y1 i0.1.LexRules d3, sl Z1 i0.1.Rules e3, sl a2 i0.1.Roots g3, sl b2 i0.1.Checks h3, sl T1 i0.1.Drops Z2]) s 3706 q q q q q q q q ?_); clear s; intro w hK s; clear hK
   refine S s<|aw q<|nw<|vw<|yw q (bF 1 · u38 q)<|yw q (lB 3706 · u25 q)<|yw q (lS · q u25)<|mw q<|nw<|bw fun a s => ?_
   refine c_loop (σ := Nat) (fun m5 a w => ∃ (p0 : Nat), module_check_L4 n t_ T0 U0 i0 m5 p0 = some r ∧ St (cx f24 M w0) [(0, sl b0 t_ c0), (20, vT U0), (84, sl e0 a0 g0), (85, vI ((((a0).length : Nat) : Int))), (86, vI (((n0 : Nat) : Int))), (97, sl r0 i0.1.Imports t0), (98, vI ((((i0.1.Imports).length : Nat) : Int))), (99, vI (((p0 : Nat) : Int)))] [] [(101, sF RModule b0 c0 t_), (168, sF Rep.str e0 g0 a0), (214, sF Rep.str r0 t0 i0.1.Imports)] a w) (fun m5 => m5) n ⟨(0), hg, (s.sb q q q)⟩ ?_
   clear s a; rintro m5 a w ⟨p0, hg, s⟩
   rcases m5 with _ | m5
   ·rw [module_check_L4] at hg; cases hg
   rw [module_check_L4] at hg
   refine S s<|vw<|yw q (y_lssN (i := p0) (j := ((i0.1.Imports).length)) · q q)<|nw<|sw fun a s => c_dec s q (fun E0 => ?_) (fun E0 => ?_)
   ·replace hg := br_t hg E0
    have i6 := SlR.mx (s.ft 214 q)
    obtain ⟨P6, Q0, hg⟩ := zB hg
    refine S s<|kw<|pw<|sw<|bw<|sw<|lw fun a s => ?_
    obtain ⟨B6, y3, J3, P3, b6, t3, o3⟩ := SlR.elemX (s.ft 214 q) Q0
    refine qq s q (eL 1 p0 s u25 y3 (lt_of_get Q0) q) fun a s => ?_
    obtain ⟨rfl, p6⟩ := t3
    obtain ⟨C6, h4, hg⟩ := zB hg
    obtain ⟨D6, i4, hg⟩ := zB hg
    refine S s<|yw q (lP · J3 P3 (o3 0 _ q) u9 q)<|aw q<|nw<|sw<|lw<|mw q<|mw q fun a s => ?_
    refine lC s q func25 (c_module_needs n _ _ s.lt _ _ _ (s.ft 101 q) _ (by omega) _ h4) fun E6 a w hK hp s => ?_
    obtain ⟨F5, c6, rfl, j4⟩ := hp
    refine S s<|nsw 224 j4<|mw q fun a s => ?_
    refine lV s q func40 (c_slices_Contains_string n _ _ s.lt _ _ _ (s.ft 224 q) _ (by omega) _ i4) fun a w hK s => ?_
    apply wN
    refine c_cond s q (fun u0 => ?_) (fun u0 => ?_)
    ·replace hg := br_t hg u0
     refine S s<|vw<|aw q<|nw fun a s => ?_
     apply wp_ret
     refine p_inR ?_
     refine p_thenR ?_
     refine p_thenR ?_
     refine p_inR ?_
     refine p_inR ?_
     refine p_thenR ?_
     refine p_thenR ?_
     refine p_inR ?_
     refine p_thenR ?_
     obtain rfl := si hg
     exact fT f24 s q q q
    replace hg := br_n hg u0
    apply wp_skip
    refine p_inN ?_
    refine S s<|pw<|lw<|yw q (y_addN (i := p0) (j := 1) · q q (in64.2 (by omega)))<|mw q<|nw fun a s => ?_
    exact ⟨m5, Nat.lt_succ_self _, ⟨(p0 + 1), hg, (s.sb q q q)⟩⟩
   replace hg := br_f hg E0
   apply wp_exit
   refine p_then ?_
   refine p_then ?_
   refine p_in ?_
   refine p_inN ?_
   apply pN
   exact ⟨hg, (s.sb q q q)⟩
  clear s a; rintro a w ⟨hg, s⟩
  subst E3
  refine S s<|lw<|yw q (y_addN (i := n0) (j := 1) · q q (in64.2 (by omega)))<|mw q<|nw fun a s => ?_
  exact ⟨m4, Nat.lt_succ_self _, ⟨(n0 + 1), hg, (s.sb q q q)⟩⟩
 replace hg := br_f hg D0
 apply wp_exit
 refine p_then ?_
 refine p_then ?_
 refine p_in ?_
 refine S s<|pw<|vw<|aw q<|nw fun a s => ?_
 apply wp_ret
 obtain rfl := si hg
 exact fT f24 s q q q
theorem c_module_Order_1 (n : Nat) : ∀ (M : Bs) (w0 : World) (hM : bM M w0) (C : Bs) (name_ : (List UInt8)) (I1 : (name_).length ≤ 9223372036854775807) (b0 : Nat) (t0 : (List (List UInt8 × Bool))) (a0 : Nat) (m0 : List (List UInt8 × Value)) (h0 : Nat) (g0 : (List Module)) (o0 : OA) (p0 : Nat) (e0 : Nat) (c0 : Nat) (i0 : (List (List UInt8))) (j0 : OA) (l0 : Nat) (r0 : List Value) (hW : Wd ⟨0, M, C, w0⟩ [(9100000, Ob.box b0 [.map (some a0)] 51), (9100100, Ob.box c0 [.slice (j0) ((i0).length) (l0)] 25), (9200000, Ob.smap a0 (m0)), (9200100, Ob.row (j0) ((i0).length) (l0) 9 1 (r0))] [(9300000, kvF Rep.bool (m0) (t0)), (9300100, rdF Rep.str (r0) (i0)), (9400000, slF RModule (o0) ((g0).length) (p0) (g0)), (9400001, boxF h0 [.slice (o0) ((g0).length) (p0)] 22), (9400002, boxF e0 [.func (.func 26) #[] #[.pointer (some ⟨b0, 0, none⟩), .pointer (some ⟨h0, 0, none⟩), .pointer (some ⟨e0, 0, none⟩), .pointer (some ⟨c0, 0, none⟩)]] 52)] w0) (r : ((List (List UInt8 × Bool)) × (List (List UInt8)))) (hg : module_Order_1 n name_ t0 g0 i0 = some r),
    Calls Tryz.prog 26 [vT name_, .pointer (some ⟨b0, 0, none⟩), .pointer (some ⟨h0, 0, none⟩), .pointer (some ⟨e0, 0, none⟩), .pointer (some ⟨c0, 0, none⟩)].toArray w0 (Ret C w0 fun v w => ∃ (csm0_0 : List (List UInt8 × Value)), ∃ (L0 : OA), ∃ (M0 : Nat), ∃ (csm1_0 : List Value), v = .tuple #[] ∧ (Wd ⟨0, M, C, w0⟩ [(9100000, Ob.box b0 [.map (some a0)] 51), (9100100, Ob.box c0 [sl L0 r.2 M0] 25), (9200000, Ob.smap a0 (csm0_0)), (9200100, Ob.row (L0) ((r.2).length) (M0) 9 1 (csm1_0))] [(9300000, kvF Rep.bool (csm0_0) (r.1)), (9300100, rdF Rep.str (csm1_0) (r.2))] w)) := by
 induction n with
 | zero => intros; rename_i hg; rw [module_Order_1] at hg; cases hg
 | succ n c_self =>
 intro M w0 hM C name_ I1 b0 t0 a0 m0 h0 g0 o0 p0 e0 c0 i0 j0 l0 r0 hW r hg
 rw [module_Order_1] at hg
 refine enterL M C func26 q q hW ?_
 intro a s
 refine S s<|alw 104 9400000 q<|alw 105 9400001 q<|alw 106 9400002 q<|sw<|vw<|yw q (lB 9100000 · u51 q)<|mw q fun a s => ?_
 have t1 := kvF_getD (R := Rep.bool) (k := name_) (z := .bool (false)) (zx := false) (s.ft 9300000 q) (by exact q)
 have k1 := t1
 refine S s<|yw q (y_lookupV (kk := 9200000) · q q q u51 u9 q k1)<|yw q (y_not · q)<|nw fun a s => c_cond s q (fun K0 => ?_) (fun K0 => ?_)
 ·replace hg := br_t hg K0
  apply wp_ret
  refine p_thenR ?_
  replace s := s.al 9300000 9300000 rfl |>.al 9300100 9300100 q
  obtain rfl := si hg
  refine fin0 (fn := Tryz.f26) s q ?_ (.inl q)
  exact ⟨(m0), (j0), (l0), (r0), q, ((s.ren [(9100000, Ob.box b0 [.map (some a0)] 51), (9100100, Ob.box c0 [sl j0 i0 l0] 25), (9200000, Ob.smap a0 (m0)), (9200100, Ob.row (j0) ((i0).length) (l0) 9 1 (r0))] [9100000, 9100100, 9200000, 9200100] ⟨q, q, q, q, trivial⟩ (by decide)).outL ⟨q, q, q, q, trivial⟩ ⟨q, q, trivial⟩)⟩
 replace hg := br_n hg K0
 refine S s<|kw<|pw<|vw<|yw q (lB 9100000 · u51 q)<|mw q fun a s => ?_
 refine l_seq q (l_mapDelete s 9200000 q q q u51 u9 fun w hK s => ?_)
 replace s := s.add 108 (kvF Rep.bool (mdel (m0) (name_)) (mdel (t0) (name_))) (kvF_del (s.ft 9300000 q))
 obtain ⟨r4, w1, hg⟩ := zB hg
 refine S s<|nw<|sw<|lw<|yw q (fun s => y_loadF1 s q (s.ft 105 q) q u22 q)<|mw q fun a s => ?_
 refine lC s q func27 (c_module_find n _ _ s.lt _ _ _ (s.ft 104 q) _ (by omega) _ w1) fun v8 a w hK hp s => ?_
 obtain ⟨E0, I0, T0, c1, U0, d1, V0, e1, X0, g1, Y0, h1, Z0, i1, a1, j1, S0, b1, rfl, Q1, z1, B1, C1, D1, E1, F1, G1, H1, y1⟩ := hp
 refine S s<|nsw 118 z1<|nsw 119 B1<|nsw 120 C1<|nsw 121 D1<|nsw 122 E1<|nsw 123 F1<|nsw 124 G1<|nsw 125 H1<|nsw 126 y1<|mw q<|yw q (y_extract · q q)<|yw q (y_extract · q q) fun a s => ?_
 refine l_seq q (l_alloc (zs := [vT ([]), nS, nS, nS, nS, nS, nS, nS, nS, nS]) s 1206 q q q q fun K1 a w hb hK s => ?_)
 refine l_seq q (l_store (n := 10) (cs' := [vT r4.1.Name, sl E0 r4.1.Imports I0, sl T0 r4.1.Types c1, sl U0 r4.1.Templates d1, sl V0 r4.1.Entries e1, sl X0 r4.1.LexRules g1, sl Y0 r4.1.Rules h1, sl Z0 r4.1.Roots i1, sl a1 r4.1.Checks j1, sl S0 r4.1.Drops b1]) s 1206 q q q q q q q q ?_); clear s; intro w hK s; clear hK
 refine S s<|aw q<|nw<|sw<|vw<|yw q (bF 1 · u38 q)<|yw q (lB 1206 · u25 q)<|yw q (lS · q u25)<|mw q<|nw fun a s => ?_
 obtain ⟨R0, hg, r1⟩ := zJ hg
 refine c_post (fun a w => ∃ (F0 : (List (List UInt8 × Bool))) (d0 : (List (List UInt8))) (x0 : List (List UInt8 × Value)) (A15 : OA) (G0 : Nat) (q0 : List Value), R0 F0 d0 = some r ∧ St (⟨Tryz.f26.ntmps, M, C, w0⟩ : Ctx) [(0, vT name_), (1, vP b0 0), (4, vP c0 0)] [(700128, Ob.row (A15) ((d0).length) (G0) 9 1 (q0)), (9100000, Ob.box b0 [.map (some a0)] 51), (9100100, Ob.box c0 [sl A15 d0 G0] 25), (9200000, Ob.smap a0 (x0))] [(127, kvF Rep.bool (x0) (F0)), (129, rdF Rep.str (q0) (d0))] a w) ?_ ?_
 ·refine S s<|bw<|alw 130 108 q<|alw 132 9300100 q fun a s => ?_
  replace s := s.pk [(1206, 1206), (700131, 9200100), (9100000, 9100000), (9100100, 9100100), (9200000, 9200000)] (by decide)
  refine c_loop (σ := Nat) (fun m1 a w => ∃ (n0 : Nat) (s0 : (List (List UInt8 × Bool))) (k0 : (List (List UInt8))) (y0 : List (List UInt8 × Value)) (A22 : OA) (u0 : Nat) (v0 : List Value), module_Order_1_L0 n g0 (module_Order_1 n) r4 R0 m1 n0 s0 k0 = some r ∧ St (⟨Tryz.f26.ntmps, M, C, w0⟩ : Ctx) [(0, vT name_), (1, vP b0 0), (3, vP e0 0), (4, vP c0 0), (23, sl E0 r4.1.Imports I0), (24, vI ((((r4.1.Imports).length : Nat) : Int))), (25, vI (((n0 : Nat) : Int)))] [(700131, Ob.row (A22) ((k0).length) (u0) 9 1 (v0)), (9100000, Ob.box b0 [.map (some a0)] 51), (9100100, Ob.box c0 [sl A22 k0 u0] 25), (9200000, Ob.smap a0 (y0))] [(104, sF RModule o0 p0 g0), (105, boxF h0 [sl o0 g0 p0] 22), (106, boxF e0 [.func (.func 26) #[] #[vP b0 0, vP h0 0, vP e0 0, vP c0 0]] 52), (118, sF Rep.str E0 I0 r4.1.Imports), (130, kvF Rep.bool (y0) (s0)), (132, rdF Rep.str (v0) (k0))] a w) (fun m1 => m1) n ⟨(0), (mdel (t0) (name_)), (i0), (mdel (m0) (name_)), (j0), (l0), (r0), hg, (s.sb q q q)⟩ ?_
  clear s a; rintro m1 a w ⟨n0, s0, k0, y0, A22, u0, v0, hg, s⟩
  rcases m1 with _ | m1
  ·rw [module_Order_1_L0] at hg; cases hg
  rw [module_Order_1_L0] at hg
  refine S s<|vw<|yw q (y_lssN (i := n0) (j := ((r4.1.Imports).length)) · q q)<|nw<|sw fun a s => c_dec s q (fun J0 => ?_) (fun J0 => ?_)
  ·replace hg := br_t hg J0
   have O1 := SlR.mx (s.ft 118 q)
   obtain ⟨J1, Q0, hg⟩ := zB hg
   refine S s<|kw<|pw<|sw<|bw<|sw<|lw fun a s => ?_
   obtain ⟨R1, q1, s1, u1, M1, p1, o1⟩ := SlR.elemX (s.ft 118 q) Q0
   refine qq s q (eL 1 n0 s u25 q1 (lt_of_get Q0) q) fun a s => ?_
   obtain ⟨rfl, P1⟩ := p1
   obtain ⟨z0, v1, hg⟩ := zB hg
   refine S s<|yw q (lP · s1 u1 (o1 0 _ q) u9 q)<|aw q<|nw<|lw<|yw q (fun s => y_loadF1 s q (s.ft 106 q) q u52 q)<|mw q fun a s => ?_
   have hT := s.pk [(9100000, 9100000), (9100100, 9100100), (9200000, 9200000), (9200100, 700131)] (by decide)
   replace hT := hT.al 9300000 130 q
   replace hT := hT.al 9300100 132 q
   replace hT := hT.al 9400000 104 q
   replace hT := hT.al 9400001 105 q
   replace hT := hT.al 9400002 106 q
   refine l_seq q (l_callMut (cap := [vP b0 0, vP h0 0, vP e0 0, vP c0 0]) hT _ [] (sbA (by rfl)) trivial (by rfl) q func26 q (by kernel_rfl) q q (c_self _ _ (hT.restLt []) _ J1 (by omega) b0 s0 a0 (y0) h0 g0 (o0) (p0) e0 c0 k0 (A22) (u0) (v0) (hT.wd.lendL _ _ _ (sbA (by rfl)) (keep_sub []) (by rfl) (sbA (by rfl))) z0 v1) ?_); intro S1 a' w' hK hp hF
   obtain ⟨csm0_0u36, D0, H0, csm1_0u36, rfl, O0⟩ := hp
   have l1 := St.mk hF (hT.wd.back (sbA (by rfl)) (keep_sub []) (by rfl) O0 (by rfl))
   clear s hT hF O0 hK; revert l1; revert w'; revert a'; intro a w s
   replace s := s.al 135 9300000 rfl |>.al 136 9300100 q
   replace s := s.ren [(700131, Ob.row (D0) ((z0.2).length) (H0) 9 1 (csm1_0u36)), (9100000, Ob.box b0 [.map (some a0)] 51), (9100100, Ob.box c0 [sl D0 z0.2 H0] 25), (9200000, Ob.smap a0 (csm0_0u36))] [9200100, 9100000, 9100100, 9200000] ⟨q, q, q, q, trivial⟩ (by decide)
   apply wO
   refine p_inN ?_
   refine S s<|pw<|lw<|yw q (y_addN (i := n0) (j := 1) · q q (in64.2 (by omega)))<|mw q<|nw<|alw 130 135 q<|alw 132 136 q fun a s => ?_
   exact ⟨m1, Nat.lt_succ_self _, ⟨(n0 + 1), (z0.1), (z0.2), (csm0_0u36), (D0), (H0), (csm1_0u36), hg, (s.sb q q q)⟩⟩
  replace hg := br_f hg J0
  apply wp_exit
  refine p_then ?_
  refine p_then ?_
  refine p_in ?_
  refine S s<|pw<|alw 127 130 q<|alw 129 132 q fun a s => ?_
  replace s := s.pk [(700128, 700131), (9100000, 9100000), (9100100, 9100100), (9200000, 9200000)] (by decide)
  exact ⟨(s0), (k0), (y0), (A22), (u0), (v0), hg, (s.sb q q q)⟩
 clear s a; rintro a w ⟨F0, d0, x0, A15, G0, q0, hg, s⟩
 subst r1
 obtain ⟨P0, hg⟩ := zC hg
 refine S s<|lw<|yw q (lB 9100100 · u25 q)<|mw q fun a s => ?_
 refine l_seq q (l_buildDense (sz := 1) s 1802 q q q u25 q q q q q q q fun L1 a w n1 hK s => ?_)
 clear n1
 replace s := s.add 139 (rdF Rep.str (cellsOfL [vT name_]) ([name_])) (RdAll.cons (by exact ⟨q, (by omega)⟩) (rN))
 have x1 := row_src (s.wd.holds 1802 _ q) (RdAll.one (s.ft 139 q))
 refine l_seq q (l_append (sz := 1) (by_ := 16) (N := (d0 ++ [name_]).length) s 700128 q q q u25 q q q q q x1 (by rw [List.length_append]; try rfl) q (rmA P0 q) (rmB P0) q fun B0 C0 a w hA hK s => ?_)
 replace s := s.add 140 (rdF Rep.str (q0 ++ (cellsOfL [vT name_])) (d0 ++ [name_])) (RdAll.append (s.ft 129 q) (s.ft 139 q))
 refine l_seq q (l_store (n := 1) (cs' := [sl B0 (d0 ++ [name_]) C0]) s 9100100 q q q q q q q q ?_); clear s; intro w hK s; clear hK
 apply wO
 replace s := s.al 9300000 127 rfl |>.al 9300100 140 q
 obtain rfl := si hg
 refine fin0 (fn := Tryz.f26) s q ?_ (.inr q)
 exact ⟨(x0), (B0), (C0), (q0 ++ (cellsOfL [vT name_])), q, ((s.ren [(9100000, Ob.box b0 [.map (some a0)] 51), (9100100, Ob.box c0 [sl B0 (d0 ++ [name_]) C0] 25), (9200000, Ob.smap a0 (x0)), (9200100, Ob.row (B0) ((d0 ++ [name_]).length) (C0) 9 1 (q0 ++ (cellsOfL [vT name_])))] [9100000, 9100100, 9200000, 700128] ⟨q, q, q, q, trivial⟩ (by decide)).outL ⟨q, q, q, q, trivial⟩ ⟨q, q, trivial⟩)⟩
theorem c_module_Order (n : Nat) (M : Bs) (w0 : World) (hM : bM M w0) (l_ : (List Module)) (c0 : OA) (d0 : Nat) (J0 : sR RModule M w0 c0 d0 l_) (main_ : (List UInt8)) (R0 : (main_).length ≤ 9223372036854775807) (r : ((List (List UInt8)) × Int)) (hg : module_Order n l_ main_ = some r) :
    CA Tryz.prog 12 [sl c0 l_ d0, vT main_] w0 (fun v w => ∃ (t0 : OA), ∃ (v0 : Nat), v = .tuple #[sl t0 r.1 v0, .int .i64 (r.2)] ∧ (SlR Rep.str M w t0 (r.1).length v0 (r.1))) := by
 unfold module_Order at hg
 refine enter M noB func12 q q hM ?_
 intro a s
 replace s := s.es 101 J0
 apply wR
 refine l_seq q (l_box (zs := [sl c0 l_ d0]) s 1000 q q q q fun b2 a w hb hK s => ?_)
 obtain ⟨r3, L0, hg⟩ := zB hg
 refine S s<|aw q<|aw q<|nw<|sw<|sw<|lw<|yw q (lB 1000 · u22 q)<|mw q fun a s => ?_
 refine lV s q func24 (c_module_check n _ _ s.lt _ _ _ (s.ft 101 q) _ (by omega) _ L0) fun a w hK s => ?_
 refine S s<|aw q<|nw<|vw<|mw q<|yw q (y_neq · q q)<|nw fun a s => c_dec s q (fun r0 => ?_) (fun r0 => ?_)
 ·replace hg := br_t hg r0
  refine S s<|vw<|mw q<|aw q<|aw q<|nw fun a s => ?_
  apply wp_ret
  refine p_thenR ?_
  obtain rfl := si hg
  refine fin2 (fn := Tryz.f12) s q (r_tmp s q) (r_tmp s q) ?_
  exact ⟨(none), (0), q, (SlR.nil_ _ _ _)⟩
 replace hg := br_f hg r0
 apply wp_skip
 apply pN
 apply wR
 refine l_seq q (l_makeMap (n := 0) s 1400 u51 (.inl q) q q fun a0 a w hb hK s => ?_)
 replace s := s.add 103 (kvF Rep.bool ([]) ([])) (KvRel.nil)
 refine l_seq q (l_alloc (zs := [.map none]) s 1401 q q q q fun b0 a w hb hK s => ?_)
 refine l_seq q (l_store (n := 1) (cs' := [.map (some a0)]) s 1401 q q q q q q q q ?_); clear s; intro w hK s; clear hK
 obtain ⟨l0, K0, hg⟩ := zB hg
 refine S s<|nw<|sw<|sw<|lw<|yw q (lB 1000 · u22 q)<|mw q fun a s => ?_
 refine lC s q func25 (c_module_needs n _ _ s.lt _ _ _ (s.ft 101 q) _ (by omega) _ K0) fun U0 a w hK hp s => ?_
 obtain ⟨u0, x0, rfl, O0⟩ := hp
 refine S s<|nsw 105 O0<|yw q (lS · q u25)<|mw q<|nw fun a s => ?_
 obtain ⟨B0, hg, G0⟩ := zJ hg
 refine c_post (fun a w => ∃ (m0 : (List (List UInt8 × Bool))) (h0 : List (List UInt8 × Value)), B0 m0 = some r ∧ St (cx f12 M w0) [(1, vT main_), (2, vP b2 0), (7, vP b0 0)] [(1000, Ob.box b2 [sl c0 l_ d0] 22), (1400, Ob.smap a0 (h0)), (1401, Ob.box b0 [.map (some a0)] 51)] [(101, sF RModule c0 d0 l_), (106, kvF Rep.bool (h0) (m0))] a w) ?_ ?_
 ·apply wp_block
  replace s := s.al 107 103 q
  refine c_loop (σ := Nat) (fun m1 a w => ∃ (g0 : Nat) (j0 : (List (List UInt8 × Bool))) (i0 : List (List UInt8 × Value)), module_Order_L0 n l0 B0 m1 g0 j0 = some r ∧ St (cx f12 M w0) [(1, vT main_), (2, vP b2 0), (7, vP b0 0), (21, sl u0 l0 x0), (22, vI ((((l0).length : Nat) : Int))), (23, vI (((g0 : Nat) : Int)))] [(1000, Ob.box b2 [sl c0 l_ d0] 22), (1400, Ob.smap a0 (i0)), (1401, Ob.box b0 [.map (some a0)] 51)] [(101, sF RModule c0 d0 l_), (105, sF Rep.str u0 x0 l0), (107, kvF Rep.bool (i0) (j0))] a w) (fun m1 => m1) n ⟨(0), ([]), ([]), hg, (s.sb q q q)⟩ ?_
  clear s a; rintro m1 a w ⟨g0, j0, i0, hg, s⟩
  rcases m1 with _ | m1
  ·rw [module_Order_L0] at hg; cases hg
  rw [module_Order_L0] at hg
  refine S s<|vw<|yw q (y_lssN (i := g0) (j := ((l0).length)) · q q)<|nw<|sw fun a s => c_dec s q (fun q0 => ?_) (fun q0 => ?_)
  ·replace hg := br_t hg q0
   have Q0 := SlR.mx (s.ft 105 q)
   obtain ⟨n0, z0, hg⟩ := zB hg
   refine S s<|kw<|pw<|sw<|bw<|sw<|lw fun a s => ?_
   obtain ⟨T0, F0, H0, I0, P0, E0, D0⟩ := SlR.elemX (s.ft 105 q) z0
   refine qq s q (eL 1 g0 s u25 F0 (lt_of_get z0) q) fun a s => ?_
   obtain ⟨rfl, S0⟩ := E0
   refine S s<|yw q (lP · H0 I0 (D0 0 _ q) u9 q)<|aw q<|nw<|lw<|yw q (lB 1401 · u51 q)<|mw q fun a s => ?_
   refine l_seq q (l_mapUpdate s 1400 q q q q u51 u9 fun w hK s => ?_)
   replace s := s.add 109 (kvF Rep.bool (mset (i0) (n0) (.bool (true))) (mset (j0) (n0) (true))) (kvF_set (s.ft 107 q) (by exact q))
   apply wO
   refine p_inN ?_
   refine S s<|pw<|lw<|yw q (y_addN (i := g0) (j := 1) · q q (in64.2 (by omega)))<|mw q<|nw<|alw 107 109 q fun a s => ?_
   exact ⟨m1, Nat.lt_succ_self _, ⟨(g0 + 1), (mset (j0) (n0) (true)), (mset (i0) (n0) (.bool (true))), hg, (s.sb q q q)⟩⟩
  replace hg := br_f hg q0
  apply wp_exit
  refine p_then ?_
  refine p_then ?_
  refine p_in ?_
  apply pN
  replace s := s.al 106 107 q
  exact ⟨(j0), (i0), hg, (s.sb q q q)⟩
 clear s a; rintro a w ⟨m0, h0, hg, s⟩
 subst G0
 apply wR
 refine l_seq q (l_alloc (zs := [nS]) s 2000 q q q q fun e0 a w hb hK s => ?_)
 apply wN
 apply wR
 refine l_seq q (l_alloc (zs := [.nilFunc]) s 2100 q q q q fun k0 a w hb hK s => ?_)
 apply wN
 apply wR
 replace s := s.freezeBox (L' := [(1400, Ob.smap a0 (h0)), (1401, Ob.box b0 [.map (some a0)] 51), (2000, Ob.box e0 [nS] 25), (2100, Ob.box k0 [.nilFunc] 52)]) 111 1000 q ⟨q, q, q, q, trivial⟩ q
 refine qq s q (y_makeFunc (xs := [.tmp 7, .tmp 2, .tmp 11, .tmp 10]) (vs := [vP b0 0, vP b2 0, vP k0 0, vP e0 0]) s q) fun a s => ?_
 refine l_seq q (l_store (n := 1) (cs' := [.func (.func 26) #[] #[vP b0 0, vP b2 0, vP k0 0, vP e0 0]]) s 2100 q q q q q q q q ?_); clear s; intro w hK s; clear hK
 obtain ⟨s0, M0, hg⟩ := zB hg
 refine S s<|nw<|sw<|lw<|yw q (lB 2100 · u52 q)<|mw q fun a s => ?_
 replace s := s.freezeBox (L' := [(1400, Ob.smap a0 (h0)), (1401, Ob.box b0 [.map (some a0)] 51), (2000, Ob.box e0 [nS] 25)]) 117 2100 q ⟨q, q, q, trivial⟩ q
 replace s := s.nilRow 800118 9 1 q
 replace s := s.add 119 (rdF Rep.str ([]) ([])) (rN)
 have hT := s.pk [(9100000, 1401), (9100100, 2000), (9200000, 1400), (9200100, 800118)] (by decide)
 replace hT := hT.al 9300000 106 q
 replace hT := hT.al 9300100 119 q
 replace hT := hT.al 9400000 101 q
 replace hT := hT.al 9400001 111 q
 replace hT := hT.al 9400002 117 q
 refine l_seq q (l_callMut (cap := [vP b0 0, vP b2 0, vP k0 0, vP e0 0]) hT _ [] (sbA (by rfl)) trivial (by rfl) q func26 q (by kernel_rfl) q q (c_module_Order_1 n _ _ (hT.restLt []) _ main_ (by omega) b0 m0 a0 (h0) b2 l_ (c0) (d0) k0 e0 [] (none) (0) ([]) (hT.wd.lendL _ _ _ (sbA (by rfl)) (keep_sub []) (by rfl) (sbA (by rfl))) s0 M0) ?_); intro V0 a' w' hK hp hF
 obtain ⟨csm0_0u39, o0, p0, csm1_0u39, rfl, y0⟩ := hp
 have C0 := St.mk hF (hT.wd.back (sbA (by rfl)) (keep_sub []) (by rfl) y0 (by rfl))
 clear s hT hF y0 hK; revert C0; revert w'; revert a'; intro a w s
 replace s := s.al 120 9300000 rfl |>.al 121 9300100 q
 replace s := s.ren [(1400, Ob.smap a0 (csm0_0u39)), (1401, Ob.box b0 [.map (some a0)] 51), (2000, Ob.box e0 [sl o0 s0.2 p0] 25), (800118, Ob.row (o0) ((s0.2).length) (p0) 9 1 (csm1_0u39))] [9200000, 9100000, 9100100, 9200100] ⟨q, q, q, q, trivial⟩ (by decide)
 refine S s<|nw<|vw<|yw q (lB 2000 · u25 q)<|aw q<|aw q<|nw fun a s => ?_
 apply wp_ret
 obtain rfl := si hg
 refine fin2 (fn := Tryz.f12) s q (r_tmp s q) (r_tmp s q) ?_
 exact ⟨(o0), (p0), q, (s.rowOut (R := Rep.str) (kk := 800118) q q (s.ft 121 q))⟩
theorem c_r01_Same (n : Nat) (M : Bs) (w0 : World) (hM : bM M w0) (a_ : (List (List UInt8))) (b0 : OA) (d0 : Nat) (v0 : sR Rep.str M w0 b0 d0 a_) (b_ : (List (List UInt8))) (c0 : OA) (e0 : Nat) (x0 : sR Rep.str M w0 c0 e0 b_) (r : Bool) (hg : r01_Same n a_ b_ = some r) :
    CA Tryz.prog 14 [sl b0 a_ d0, sl c0 b_ e0] w0 (fun v w => v = .bool (r)) := by
 unfold r01_Same at hg
 refine enter M noB func14 q q hM ?_
 intro a s
 refine S s<|esw 101 v0<|esw 102 x0<|vw<|aw q<|nw<|sw<|vw<|mw q<|yw q (lS · q u25)<|mw q<|yw q (lS · q u25)<|yw q (y_neqN (i := ((a_).length)) (j := ((b_).length)) · q q)<|nw fun a s => c_dec s q (fun g0 => ?_) (fun g0 => ?_)
 ·replace hg := br_t hg g0
  refine S s<|vw<|aw q<|nw fun a s => ?_
  apply wp_ret
  refine p_thenR ?_
  obtain rfl := si hg
  exact fT f14 s q q q
 replace hg := br_f hg g0
 refine S s<|kw<|pw<|sw<|vw<|aw q<|nw<|bw fun a s => ?_
 refine c_loop (σ := Nat) (fun m1 a w => ∃ (a0 : Nat), r01_Same_L0 n a_ b_ m1 a0 = some r ∧ St (cx f14 M w0) [(0, sl b0 a_ d0), (1, sl c0 b_ e0), (5, vI (((a0 : Nat) : Int)))] [] [(101, sF Rep.str b0 d0 a_), (102, sF Rep.str c0 e0 b_)] a w) (fun m1 => m1) n ⟨(0), hg, (s.sb q q q)⟩ ?_
 clear s a; rintro m1 a w ⟨a0, hg, s⟩
 rcases m1 with _ | m1
 ·rw [r01_Same_L0] at hg; cases hg
 rw [r01_Same_L0] at hg
 refine S s<|sw<|vw<|mw q<|mw q<|yw q (lS · q u25)<|yw q (y_lssN (i := a0) (j := ((a_).length)) · q q)<|nw fun a s => c_dec s q (fun i0 => ?_) (fun i0 => ?_)
 ·replace hg := br_t hg i0
  have B0 := SlR.mx (s.ft 101 q)
  obtain ⟨x6, j0, hg⟩ := zB hg
  obtain ⟨x9, k0, hg⟩ := zB hg
  refine S s<|kw<|pw<|sw<|bw<|sw fun a s => ?_
  refine d_plan s [] [(0, some 0), (1, some 0), (2, some 0), (3, some 0), (4, some 0), (5, some 0), (6, some 0), (7, some 0), (8, some 0)] q (by kernel_rfl) (by kernel_rfl) q ?_; clear s; intro wr hZ s; have hR := s.wd
  refine S s<|qw hR q (mo · q)<|qw hR q (mo · q) fun a s => ?_
  obtain ⟨E0, p0, r0, t0, y0, n0, l0⟩ := SlR.elemX (s.ft 101 q) j0
  refine qt s hR q (eL 1 a0 s u25 p0 (lt_of_get j0) q) fun a s => ?_
  obtain ⟨rfl, C0⟩ := n0
  refine S s<|qw hR q (lP · r0 t0 (l0 0 _ q) u9 q)<|qw hR q (mo · q)<|qw hR q (mo · q) fun a s => ?_
  obtain ⟨F0, q0, s0, u0, z0, o0, m0⟩ := SlR.elemX (s.ft 102 q) k0
  refine qt s hR q (eL 1 a0 s u25 q0 (lt_of_get k0) q) fun a s => ?_
  obtain ⟨rfl, D0⟩ := o0
  refine S s<|qw hR q (lP · s0 u0 (m0 0 _ q) u9 q)<|qw hR q (y_sne · q q) fun a s => ?_
  clear hR hZ
  apply pN
  refine c_dec s q (fun h0 => ?_) (fun h0 => ?_)
  ·replace hg := br_t hg h0
   refine S s<|vw<|aw q<|nw fun a s => ?_
   apply wp_ret
   refine p_inR ?_
   refine p_thenR ?_
   refine p_thenR ?_
   refine p_inR ?_
   refine p_thenR ?_
   obtain rfl := si hg
   exact fT f14 s q q q
  replace hg := br_f hg h0
  apply wp_skip
  refine p_inN ?_
  refine S s<|pw<|lw<|mw q<|yw q (y_addN (i := a0) (j := 1) · q q (in64.2 (by omega)))<|aw q<|nw fun a s => ?_
  exact ⟨m1, Nat.lt_succ_self _, ⟨(a0 + 1), hg, (s.sb q q q)⟩⟩
 replace hg := br_f hg i0
 apply wp_exit
 refine p_then ?_
 refine p_then ?_
 refine p_in ?_
 refine S s<|pw<|vw<|aw q<|nw fun a s => ?_
 apply wp_ret
 obtain rfl := si hg
 exact fT f14 s q q q
theorem c_hier_decl (n : Nat) (M : Bs) (w0 : World) (hM : bM M w0) (name_ : (List UInt8)) (j0 : (name_).length ≤ 9223372036854775807) (super_ : (List UInt8)) (k0 : (super_).length ≤ 9223372036854775807) (feats_ : (List FeatDecl)) (a0 : OA) (b0 : Nat) (i0 : sR RFeatDecl M w0 a0 b0 feats_) (r : TypeDecl) (hg : hier_decl n name_ super_ feats_ = some r) :
    CA Tryz.prog 57 [vT name_, vT super_, sl a0 feats_ b0] w0 (fun v w => ∃ (c0 : OA), ∃ (e0 : Nat), ∃ (d0 : OA), ∃ (g0 : Nat), v = .agg #[vT r.Name, sl c0 r.Supers e0, sl d0 r.Feats g0] ∧ ((r.Name).length ≤ 9223372036854775807) ∧ (SlR Rep.str M w c0 (r.Supers).length e0 (r.Supers)) ∧ (SlR RFeatDecl M w d0 (r.Feats).length g0 (r.Feats))) := by
 unfold hier_decl at hg
 refine enter M noB func57 q q hM ?_
 intro a s
 replace s := s.es 101 i0
 apply wR
 refine l_seq q (l_alloc (zs := [vT ([]), nS, nS]) s 1000 q q q q fun b2 a w hb hK s => ?_)
 refine S s<|nw<|vw<|mw q<|mw q fun a s => ?_
 refine l_seq q (l_buildDense (sz := 1) s 1102 q q q u25 q q q q q q q fun b4 a w h0 hK s => ?_)
 clear h0
 refine mv s q q fun a s => ?_
 replace s := s.add 104 (rdF Rep.str (cellsOfL [vT super_]) ([super_])) (RdAll.cons (by exact ⟨q, (by omega)⟩) (rN))
 replace s := s.freeze (R := Rep.str) (kk := 1102) (L' := [(1000, Ob.box b2 [vT ([]), nS, nS] 49)]) 105 q q (s.ft 104 q) ⟨q, trivial⟩ q
 refine qq s q (y_build (parts := [(0, .tmp 7), (1, .tmp 9), (2, .tmp 10)]) (ps := [(0, vT name_), (1, .slice (some ⟨b4, 0, none⟩) (1) (1)), (2, sl a0 feats_ b0)]) (cells := #[vT name_, .slice (some ⟨b4, 0, none⟩) (1) (1), sl a0 feats_ b0]) s q (by kernel_rfl)) fun a s => ?_
 refine l_seq q (l_store (n := 3) (cs' := [vT name_, .slice (some ⟨b4, 0, none⟩) (1) (1), sl a0 feats_ b0]) s 1000 q q q q q q q q ?_); clear s; intro w hK s; clear hK
 apply wN
 apply wp_ret
 obtain rfl := si hg
 refine fin1 (fn := Tryz.f57) s q (r_cell (kk := 1000) (n := 3) (vs := [vT name_, .slice (some ⟨b4, 0, none⟩) (1) (1), sl a0 feats_ b0]) s q q u49 q q q q) ?_
 exact ⟨(some ⟨b4, 0, none⟩), (1), (a0), (b0), q, (by omega), (s.out (k := 105) q), (s.out (k := 101) q)⟩
theorem c_hier_Prelude (n : Nat) (M : Bs) (w0 : World) (hM : bM M w0)  (r : (List TypeDecl)) (hg : hier_Prelude n = some r) :
    CA Tryz.prog 31 [] w0 (fun v w => ∃ (a0 : OA), ∃ (b0 : Nat), v = sl a0 r b0 ∧ (SlR RTypeDecl M w a0 (r).length b0 (r))) := by
 unfold hier_Prelude at hg
 refine enter M noB func31 q q hM ?_
 intro a s
 obtain ⟨r1, C0, hg⟩ := zB hg
 obtain ⟨r5, M0, hg⟩ := zB hg
 obtain ⟨r8, O0, hg⟩ := zB hg
 obtain ⟨c0, D0, hg⟩ := zB hg
 obtain ⟨d0, E0, hg⟩ := zB hg
 obtain ⟨e0, F0, hg⟩ := zB hg
 obtain ⟨g0, G0, hg⟩ := zB hg
 obtain ⟨h0, H0, hg⟩ := zB hg
 obtain ⟨i0, I0, hg⟩ := zB hg
 obtain ⟨j0, J0, hg⟩ := zB hg
 obtain ⟨k0, K0, hg⟩ := zB hg
 obtain ⟨l0, L0, hg⟩ := zB hg
 refine S s<|vw<|aw q<|nw<|sw<|lw<|yw q (y_build (parts := [(0, .const (vT ([116, 111, 112])))]) (ps := [(0, vT ([116, 111, 112]))]) (cells := #[vT ([116, 111, 112]), nS, nS]) · q (by kernel_rfl)) fun a s => ?_
 refine lC s q func57 (c_hier_decl n _ _ s.lt _ lz _ lz [] (none) (0) (SlR.nil_ _ _ _) _ C0) fun D2 a w hK hp s => ?_
 obtain ⟨p1, Q1, q1, R1, rfl, q2, P0, Q0⟩ := hp
 refine S s<|nsw 137 P0<|nsw 138 Q0<|yw q (y_build (parts := [(0, .const (vT ([70, 73, 82, 83, 84]))), (1, .const (vT ([116, 111, 112])))]) (ps := [(0, vT ([70, 73, 82, 83, 84])), (1, vT ([116, 111, 112]))]) (cells := #[vT ([70, 73, 82, 83, 84]), vT ([116, 111, 112])]) · q (by kernel_rfl))<|yw q (y_build (parts := [(0, .const (vT ([82, 69, 83, 84]))), (1, .const (vT ([108, 105, 115, 116])))]) (ps := [(0, vT ([82, 69, 83, 84])), (1, vT ([108, 105, 115, 116]))]) (cells := #[vT ([82, 69, 83, 84]), vT ([108, 105, 115, 116])]) · q (by kernel_rfl)) fun a s => ?_
 refine l_seq q (l_buildDense (sz := 2) s 1104 q q q u47 q q q q q q q fun m0 a w t0 hK s => ?_)
 clear t0
 replace s := s.add 139 (rdF RFeatDecl (cellsOfL [.agg #[_, _], .agg #[_, _]]) ([(FeatDecl.mk [70, 73, 82, 83, 84] [116, 111, 112]), (FeatDecl.mk [82, 69, 83, 84] [108, 105, 115, 116])])) (RdAll.cons (by exact (RFeatDecl.mk' (x := (FeatDecl.mk [70, 73, 82, 83, 84] [116, 111, 112])) lz lz)) (RdAll.cons (by exact (RFeatDecl.mk' (x := (FeatDecl.mk [82, 69, 83, 84] [108, 105, 115, 116])) lz lz)) (rN)))
 replace s := s.freeze (R := RFeatDecl) (kk := 1104) (L' := []) 140 q q (s.ft 139 q) trivial q
 refine lC s q func57 (c_hier_decl n _ _ s.lt _ lz _ lz [(FeatDecl.mk [70, 73, 82, 83, 84] [116, 111, 112]), (FeatDecl.mk [82, 69, 83, 84] [108, 105, 115, 116])] (some ⟨m0, 0, none⟩) (2) (s.ft 140 q) _ M0) fun E2 a w hK hp s => ?_
 obtain ⟨s1, S1, t1, T1, rfl, r2, R0, S0⟩ := hp
 replace s := s.ns 141 R0 |>.ns 142 S0
 refine lC s q func57 (c_hier_decl n _ _ s.lt _ lz _ lz [] (none) (0) (SlR.nil_ _ _ _) _ O0) fun F2 a w hK hp s => ?_
 obtain ⟨u1, U1, v1, V1, rfl, s2, T0, U0⟩ := hp
 refine S s<|nsw 143 T0<|nsw 144 U0<|yw q (y_build (parts := [(0, .const (vT ([76, 73, 83, 84]))), (1, .const (vT ([108, 105, 115, 116])))]) (ps := [(0, vT ([76, 73, 83, 84])), (1, vT ([108, 105, 115, 116]))]) (cells := #[vT ([76, 73, 83, 84]), vT ([108, 105, 115, 116])]) · q (by kernel_rfl))<|yw q (y_build (parts := [(0, .const (vT ([76, 65, 83, 84]))), (1, .const (vT ([108, 105, 115, 116])))]) (ps := [(0, vT ([76, 65, 83, 84])), (1, vT ([108, 105, 115, 116]))]) (cells := #[vT ([76, 65, 83, 84]), vT ([108, 105, 115, 116])]) · q (by kernel_rfl)) fun a s => ?_
 refine l_seq q (l_buildDense (sz := 2) s 1109 q q q u47 q q q q q q q fun n0 a w u0 hK s => ?_)
 clear u0
 replace s := s.add 145 (rdF RFeatDecl (cellsOfL [.agg #[_, _], .agg #[_, _]]) ([(FeatDecl.mk [76, 73, 83, 84] [108, 105, 115, 116]), (FeatDecl.mk [76, 65, 83, 84] [108, 105, 115, 116])])) (RdAll.cons (by exact (RFeatDecl.mk' (x := (FeatDecl.mk [76, 73, 83, 84] [108, 105, 115, 116])) lz lz)) (RdAll.cons (by exact (RFeatDecl.mk' (x := (FeatDecl.mk [76, 65, 83, 84] [108, 105, 115, 116])) lz lz)) (rN)))
 replace s := s.freeze (R := RFeatDecl) (kk := 1109) (L' := []) 146 q q (s.ft 145 q) trivial q
 refine lC s q func57 (c_hier_decl n _ _ s.lt _ lz _ lz [(FeatDecl.mk [76, 73, 83, 84] [108, 105, 115, 116]), (FeatDecl.mk [76, 65, 83, 84] [108, 105, 115, 116])] (some ⟨n0, 0, none⟩) (2) (s.ft 146 q) _ D0) fun G2 a w hK hp s => ?_
 obtain ⟨w1, X1, x1, Y1, rfl, t2, V0, X0⟩ := hp
 replace s := s.ns 147 V0 |>.ns 148 X0
 refine lC s q func57 (c_hier_decl n _ _ s.lt _ lz _ lz [] (none) (0) (SlR.nil_ _ _ _) _ E0) fun H2 a w hK hp s => ?_
 obtain ⟨y1, Z1, z1, a2, rfl, u2, Y0, Z0⟩ := hp
 replace s := s.ns 149 Y0 |>.ns 150 Z0
 refine lC s q func57 (c_hier_decl n _ _ s.lt _ lz _ lz [] (none) (0) (SlR.nil_ _ _ _) _ F0) fun I2 a w hK hp s => ?_
 obtain ⟨B1, b2, C1, c2, rfl, v2, a1, b1⟩ := hp
 replace s := s.ns 151 a1 |>.ns 152 b1
 refine lC s q func57 (c_hier_decl n _ _ s.lt _ lz _ lz [] (none) (0) (SlR.nil_ _ _ _) _ G0) fun J2 a w hK hp s => ?_
 obtain ⟨D1, d2, E1, e2, rfl, w2, c1, d1⟩ := hp
 replace s := s.ns 153 c1 |>.ns 154 d1
 refine lC s q func57 (c_hier_decl n _ _ s.lt _ lz _ lz [] (none) (0) (SlR.nil_ _ _ _) _ H0) fun K2 a w hK hp s => ?_
 obtain ⟨F1, g2, G1, h2, rfl, x2, e1, g1⟩ := hp
 refine S s<|nsw 155 e1<|nsw 156 g1<|yw q (y_build (parts := [(0, .const (vT ([76, 65, 66, 69, 76]))), (1, .const (vT ([104, 97, 110, 100, 108, 101])))]) (ps := [(0, vT ([76, 65, 66, 69, 76])), (1, vT ([104, 97, 110, 100, 108, 101]))]) (cells := #[vT ([76, 65, 66, 69, 76]), vT ([104, 97, 110, 100, 108, 101])]) · q (by kernel_rfl)) fun a s => ?_
 refine l_seq q (l_buildDense (sz := 2) s 1116 q q q u47 q q q q q q q fun o0 a w v0 hK s => ?_)
 clear v0
 replace s := s.add 157 (rdF RFeatDecl (cellsOfL [.agg #[_, _]]) ([(FeatDecl.mk [76, 65, 66, 69, 76] [104, 97, 110, 100, 108, 101])])) (RdAll.cons (by exact (RFeatDecl.mk' (x := (FeatDecl.mk [76, 65, 66, 69, 76] [104, 97, 110, 100, 108, 101])) lz lz)) (rN))
 replace s := s.freeze (R := RFeatDecl) (kk := 1116) (L' := []) 158 q q (s.ft 157 q) trivial q
 refine lC s q func57 (c_hier_decl n _ _ s.lt _ lz _ lz [(FeatDecl.mk [76, 65, 66, 69, 76] [104, 97, 110, 100, 108, 101])] (some ⟨o0, 0, none⟩) (1) (s.ft 158 q) _ I0) fun L2 a w hK hp s => ?_
 obtain ⟨H1, i2, I1, j2, rfl, y2, h1, i1⟩ := hp
 refine S s<|nsw 159 h1<|nsw 160 i1<|yw q (y_build (parts := [(0, .const (vT ([72, 73, 71, 72]))), (1, .const (vT ([104, 97, 110, 100, 108, 101])))]) (ps := [(0, vT ([72, 73, 71, 72])), (1, vT ([104, 97, 110, 100, 108, 101]))]) (cells := #[vT ([72, 73, 71, 72]), vT ([104, 97, 110, 100, 108, 101])]) · q (by kernel_rfl))<|yw q (y_build (parts := [(0, .const (vT ([76, 79, 87]))), (1, .const (vT ([104, 97, 110, 100, 108, 101])))]) (ps := [(0, vT ([76, 79, 87])), (1, vT ([104, 97, 110, 100, 108, 101]))]) (cells := #[vT ([76, 79, 87]), vT ([104, 97, 110, 100, 108, 101])]) · q (by kernel_rfl)) fun a s => ?_
 refine l_seq q (l_buildDense (sz := 2) s 1120 q q q u47 q q q q q q q fun p0 a w x0 hK s => ?_)
 clear x0
 replace s := s.add 161 (rdF RFeatDecl (cellsOfL [.agg #[_, _], .agg #[_, _]]) ([(FeatDecl.mk [72, 73, 71, 72] [104, 97, 110, 100, 108, 101]), (FeatDecl.mk [76, 79, 87] [104, 97, 110, 100, 108, 101])])) (RdAll.cons (by exact (RFeatDecl.mk' (x := (FeatDecl.mk [72, 73, 71, 72] [104, 97, 110, 100, 108, 101])) lz lz)) (RdAll.cons (by exact (RFeatDecl.mk' (x := (FeatDecl.mk [76, 79, 87] [104, 97, 110, 100, 108, 101])) lz lz)) (rN)))
 replace s := s.freeze (R := RFeatDecl) (kk := 1120) (L' := []) 162 q q (s.ft 161 q) trivial q
 refine lC s q func57 (c_hier_decl n _ _ s.lt _ lz _ lz [(FeatDecl.mk [72, 73, 71, 72] [104, 97, 110, 100, 108, 101]), (FeatDecl.mk [76, 79, 87] [104, 97, 110, 100, 108, 101])] (some ⟨p0, 0, none⟩) (2) (s.ft 162 q) _ J0) fun M2 a w hK hp s => ?_
 obtain ⟨J1, k2, K1, l2, rfl, z2, j1, k1⟩ := hp
 refine S s<|nsw 163 j1<|nsw 164 k1<|yw q (y_build (parts := [(0, .const (vT ([84, 79, 80]))), (1, .const (vT ([104, 97, 110, 100, 108, 101])))]) (ps := [(0, vT ([84, 79, 80])), (1, vT ([104, 97, 110, 100, 108, 101]))]) (cells := #[vT ([84, 79, 80]), vT ([104, 97, 110, 100, 108, 101])]) · q (by kernel_rfl))<|yw q (y_build (parts := [(0, .const (vT ([73, 78, 68, 69, 88]))), (1, .const (vT ([105, 110, 100, 101, 120])))]) (ps := [(0, vT ([73, 78, 68, 69, 88])), (1, vT ([105, 110, 100, 101, 120]))]) (cells := #[vT ([73, 78, 68, 69, 88]), vT ([105, 110, 100, 101, 120])]) · q (by kernel_rfl))<|yw q (y_build (parts := [(0, .const (vT ([82, 69, 76, 83]))), (1, .const (vT ([100, 108, 105, 115, 116])))]) (ps := [(0, vT ([82, 69, 76, 83])), (1, vT ([100, 108, 105, 115, 116]))]) (cells := #[vT ([82, 69, 76, 83]), vT ([100, 108, 105, 115, 116])]) · q (by kernel_rfl))<|yw q (y_build (parts := [(0, .const (vT ([67, 79, 78, 83]))), (1, .const (vT ([100, 108, 105, 115, 116])))]) (ps := [(0, vT ([67, 79, 78, 83])), (1, vT ([100, 108, 105, 115, 116]))]) (cells := #[vT ([67, 79, 78, 83]), vT ([100, 108, 105, 115, 116])]) · q (by kernel_rfl)) fun a s => ?_
 refine l_seq q (l_buildDense (sz := 2) s 1126 q q q u47 q q q q q q q fun q0 a w y0 hK s => ?_)
 clear y0
 replace s := s.add 165 (rdF RFeatDecl (cellsOfL [.agg #[_, _], .agg #[_, _], .agg #[_, _], .agg #[_, _]]) ([(FeatDecl.mk [84, 79, 80] [104, 97, 110, 100, 108, 101]), (FeatDecl.mk [73, 78, 68, 69, 88] [105, 110, 100, 101, 120]), (FeatDecl.mk [82, 69, 76, 83] [100, 108, 105, 115, 116]), (FeatDecl.mk [67, 79, 78, 83] [100, 108, 105, 115, 116])])) (RdAll.cons (by exact (RFeatDecl.mk' (x := (FeatDecl.mk [84, 79, 80] [104, 97, 110, 100, 108, 101])) lz lz)) (RdAll.cons (by exact (RFeatDecl.mk' (x := (FeatDecl.mk [73, 78, 68, 69, 88] [105, 110, 100, 101, 120])) lz lz)) (RdAll.cons (by exact (RFeatDecl.mk' (x := (FeatDecl.mk [82, 69, 76, 83] [100, 108, 105, 115, 116])) lz lz)) (RdAll.cons (by exact (RFeatDecl.mk' (x := (FeatDecl.mk [67, 79, 78, 83] [100, 108, 105, 115, 116])) lz lz)) (rN)))))
 replace s := s.freeze (R := RFeatDecl) (kk := 1126) (L' := []) 166 q q (s.ft 165 q) trivial q
 refine lC s q func57 (c_hier_decl n _ _ s.lt _ lz _ lz [(FeatDecl.mk [84, 79, 80] [104, 97, 110, 100, 108, 101]), (FeatDecl.mk [73, 78, 68, 69, 88] [105, 110, 100, 101, 120]), (FeatDecl.mk [82, 69, 76, 83] [100, 108, 105, 115, 116]), (FeatDecl.mk [67, 79, 78, 83] [100, 108, 105, 115, 116])] (some ⟨q0, 0, none⟩) (4) (s.ft 166 q) _ K0) fun O2 a w hK hp s => ?_
 obtain ⟨L1, m2, M1, n2, rfl, B2, l1, m1⟩ := hp
 refine S s<|nsw 167 l1<|nsw 168 m1<|yw q (y_build (parts := [(0, .const (vT ([83, 69, 77]))), (1, .const (vT ([115, 101, 109])))]) (ps := [(0, vT ([83, 69, 77])), (1, vT ([115, 101, 109]))]) (cells := #[vT ([83, 69, 77]), vT ([115, 101, 109])]) · q (by kernel_rfl))<|yw q (y_build (parts := [(0, .const (vT ([65, 82, 71, 83]))), (1, .const (vT ([108, 105, 115, 116])))]) (ps := [(0, vT ([65, 82, 71, 83])), (1, vT ([108, 105, 115, 116]))]) (cells := #[vT ([65, 82, 71, 83]), vT ([108, 105, 115, 116])]) · q (by kernel_rfl)) fun a s => ?_
 refine l_seq q (l_buildDense (sz := 2) s 1130 q q q u47 q q q q q q q fun r0 a w z0 hK s => ?_)
 clear z0
 replace s := s.add 169 (rdF RFeatDecl (cellsOfL [.agg #[_, _], .agg #[_, _]]) ([(FeatDecl.mk [83, 69, 77] [115, 101, 109]), (FeatDecl.mk [65, 82, 71, 83] [108, 105, 115, 116])])) (RdAll.cons (by exact (RFeatDecl.mk' (x := (FeatDecl.mk [83, 69, 77] [115, 101, 109])) lz lz)) (RdAll.cons (by exact (RFeatDecl.mk' (x := (FeatDecl.mk [65, 82, 71, 83] [108, 105, 115, 116])) lz lz)) (rN)))
 replace s := s.freeze (R := RFeatDecl) (kk := 1130) (L' := []) 170 q q (s.ft 169 q) trivial q
 refine lC s q func57 (c_hier_decl n _ _ s.lt _ lz _ lz [(FeatDecl.mk [83, 69, 77] [115, 101, 109]), (FeatDecl.mk [65, 82, 71, 83] [108, 105, 115, 116])] (some ⟨r0, 0, none⟩) (2) (s.ft 170 q) _ L0) fun P2 a w hK hp s => ?_
 obtain ⟨O1, o2, P1, p2, rfl, C2, n1, o1⟩ := hp
 replace s := s.ns 171 n1 |>.ns 172 o1
 refine l_seq q (l_buildDense (sz := 3) s 1132 q q q u32 q q q q q q q fun s0 a w B0 hK s => ?_)
 clear B0
 refine S s<|aw q<|nw fun a s => ?_
 apply wp_ret
 obtain rfl := si hg
 refine fin1 (fn := Tryz.f31) s q (r_tmp s q) ?_
 replace s := s.add 173 (rdF RTypeDecl (cellsOfL [.agg #[_, _, _], .agg #[_, _, _], .agg #[_, _, _], .agg #[_, _, _], .agg #[_, _, _], .agg #[_, _, _], .agg #[_, _, _], .agg #[_, _, _], .agg #[_, _, _], .agg #[_, _, _], .agg #[_, _, _], .agg #[_, _, _], .agg #[_, _, _]]) ([(TypeDecl.mk [116, 111, 112] [] []), r1, r5, r8, c0, d0, e0, g0, h0, i0, j0, k0, l0])) (RdAll.cons (by exact (RTypeDecl.mk' (x := (TypeDecl.mk [116, 111, 112] [] [])) lz (SlR.nil_ _ _ _) (SlR.nil_ _ _ _))) (RdAll.cons (by exact (RTypeDecl.mk' (x := r1) (by omega) (s.ft 137 q) (s.ft 138 q))) (RdAll.cons (by exact (RTypeDecl.mk' (x := r5) (by omega) (s.ft 141 q) (s.ft 142 q))) (RdAll.cons (by exact (RTypeDecl.mk' (x := r8) (by omega) (s.ft 143 q) (s.ft 144 q))) (RdAll.cons (by exact (RTypeDecl.mk' (x := c0) (by omega) (s.ft 147 q) (s.ft 148 q))) (RdAll.cons (by exact (RTypeDecl.mk' (x := d0) (by omega) (s.ft 149 q) (s.ft 150 q))) (RdAll.cons (by exact (RTypeDecl.mk' (x := e0) (by omega) (s.ft 151 q) (s.ft 152 q))) (RdAll.cons (by exact (RTypeDecl.mk' (x := g0) (by omega) (s.ft 153 q) (s.ft 154 q))) (RdAll.cons (by exact (RTypeDecl.mk' (x := h0) (by omega) (s.ft 155 q) (s.ft 156 q))) (RdAll.cons (by exact (RTypeDecl.mk' (x := i0) (by omega) (s.ft 159 q) (s.ft 160 q))) (RdAll.cons (by exact (RTypeDecl.mk' (x := j0) (by omega) (s.ft 163 q) (s.ft 164 q))) (RdAll.cons (by exact (RTypeDecl.mk' (x := k0) (by omega) (s.ft 167 q) (s.ft 168 q))) (RdAll.cons (by exact (RTypeDecl.mk' (x := l0) (by omega) (s.ft 171 q) (s.ft 172 q))) (rN))))))))))))))
 exact ⟨(some ⟨s0, 0, none⟩), (13), q, (s.rowOut (R := RTypeDecl) (kk := 1132) q q (s.ft 173 q))⟩
theorem c_module_Visible (n : Nat) (M : Bs) (w0 : World) (hM : bM M w0) (t_ : (List Module)) (c0 : OA) (d0 : Nat) (O2 : sR RModule M w0 c0 d0 t_) (t_' : (List UInt8)) (I3 : (t_').length ≤ 9223372036854775807) (r : (List (List UInt8))) (hg : module_Visible n t_ t_' = some r) :
    CA Tryz.prog 15 [sl c0 t_ d0, vT t_'] w0 (fun v w => ∃ (q1 : OA), ∃ (t1 : Nat), v = sl q1 r t1 ∧ (SlR Rep.str M w q1 (r).length t1 (r))) := by
 unfold module_Visible at hg
 refine enter M noB func15 q q hM ?_
 intro a s
 obtain ⟨r1, X2, hg⟩ := zB hg
 refine S s<|esw 101 O2<|vw<|aw q<|nw<|vw<|aw q<|nw<|sw<|sw<|lw fun a s => ?_
 refine lC s q func31 (c_hier_Prelude n _ _ s.lt  _ X2) fun v4 a w hK hp s => ?_
 obtain ⟨s1, v1, rfl, h3⟩ := hp
 refine S s<|nsw 103 h3<|yw q (lS · q u32)<|mw q<|nw fun a s => ?_
 obtain ⟨k6, hg, D2⟩ := zJ hg
 refine c_post (fun a w => ∃ (G0 : (List (List UInt8))) (A8 : OA) (c9 : Nat) (h1 : List Value), k6 G0 = some r ∧ St (cx f15 M w0) [(0, sl c0 t_ d0), (1, vT (t_')), (5, sl A8 G0 c9)] [(700104, Ob.row (A8) ((G0).length) (c9) 9 1 (h1))] [(101, sF RModule c0 d0 t_), (105, rdF Rep.str (h1) (G0))] a w) ?_ ?_
 ·apply wp_block
  replace s := s.nilRow 700106 9 1 q
  replace s := s.add 107 (rdF Rep.str [] []) (rN)
  refine c_loop (σ := Nat) (fun m1 a w => ∃ (n0 : (List (List UInt8))) (s0 : Nat) (A12 : OA) (b1 : Nat) (y0 : List Value), module_Visible_L0 n r1 k6 m1 n0 s0 = some r ∧ St (cx f15 M w0) [(0, sl c0 t_ d0), (1, vT (t_')), (5, sl A12 n0 b1), (16, sl s1 r1 v1), (17, vI ((((r1).length : Nat) : Int))), (18, vI (((s0 : Nat) : Int)))] [(700106, Ob.row (A12) ((n0).length) (b1) 9 1 (y0))] [(101, sF RModule c0 d0 t_), (103, sF RTypeDecl s1 v1 r1), (107, rdF Rep.str (y0) (n0))] a w) (fun m1 => m1) n ⟨([]), (0), (none), (0), ([]), hg, (s.sb q q q)⟩ ?_
  clear s a; rintro m1 a w ⟨n0, s0, A12, b1, y0, hg, s⟩
  rcases m1 with _ | m1
  ·rw [module_Visible_L0] at hg; cases hg
  rw [module_Visible_L0] at hg
  refine S s<|vw<|yw q (y_lssN (i := s0) (j := ((r1).length)) · q q)<|nw<|sw fun a s => c_dec s q (fun l1 => ?_) (fun l1 => ?_)
  ·replace hg := br_t hg l1
   have E3 := SlR.mx (s.ft 103 q)
   obtain ⟨l0, E1, hg⟩ := zB hg
   refine S s<|kw<|pw<|sw<|bw<|sw<|lw fun a s => ?_
   obtain ⟨R3, w2, G2, K2, B3, s2, o2⟩ := SlR.elemX (s.ft 103 q) E1
   refine qq s q (eL 3 s0 s u32 w2 (lt_of_get E1) q) fun a s => ?_
   obtain ⟨Q1, b2, R1, c2, rfl, L3, S2, T2⟩ := RTypeDecl.open s2
   refine S s<|nsw 110 S2<|nsw 111 T2<|yw q (y_ldp · q G2 K2 (by simpa using o2) u49 q q) fun a s => ?_
   refine l_seq q (l_alloc (zs := [vT ([]), nS, nS]) s 1402 q q q q fun v3 a w hb hK s => ?_)
   refine l_seq q (l_store (n := 3) (cs' := [vT l0.Name, sl Q1 l0.Supers b2, sl R1 l0.Feats c2]) s 1402 q q q q q q q q ?_); clear s; intro w hK s; clear hK
   obtain ⟨z1, hg⟩ := zC hg
   refine S s<|nw<|lw<|mw q<|yw q (bF 0 · u49 q)<|yw q (lB 1402 · u9 q) fun a s => ?_
   refine l_seq q (l_buildDense (sz := 1) s 1503 q q q u25 q q q q q q q fun w3 a w k2 hK s => ?_)
   clear k2
   replace s := s.add 114 (rdF Rep.str (cellsOfL [vT l0.Name]) ([l0.Name])) (RdAll.cons (by exact ⟨q, (by omega)⟩) (rN))
   have d3 := row_src (s.wd.holds 1503 _ q) (RdAll.one (s.ft 114 q))
   refine l_seq q (l_append (sz := 1) (by_ := 16) (N := (n0 ++ [l0.Name]).length) s 700106 q q q u25 q q q q q d3 (by rw [List.length_append]; try rfl) q (rmA z1 q) (rmB z1) q fun S1 d2 a w hA hK s => ?_)
   replace s := s.add 115 (rdF Rep.str (y0 ++ (cellsOfL [vT l0.Name])) (n0 ++ [l0.Name])) (RdAll.append (s.ft 107 q) (s.ft 114 q))
   refine asg s q q fun a s => ?_
   apply wO
   refine p_inN ?_
   refine S s<|pw<|lw<|yw q (y_addN (i := s0) (j := 1) · q q (in64.2 (by omega)))<|mw q<|nw<|alw 107 115 q fun a s => ?_
   exact ⟨m1, Nat.lt_succ_self _, ⟨(n0 ++ [l0.Name]), (s0 + 1), (S1), (d2), (y0 ++ (cellsOfL [vT l0.Name])), hg, (s.sb q q q)⟩⟩
  replace hg := br_f hg l1
  apply wp_exit
  refine p_then ?_
  refine p_then ?_
  refine p_in ?_
  apply pN
  replace s := s.al 105 107 q
  replace s := s.pk [(700104, 700106)] (by decide)
  exact ⟨(n0), (A12), (b1), (y0), hg, (s.sb q q q)⟩
 clear s a; rintro a w ⟨G0, A8, c9, h1, hg, s⟩
 subst D2
 obtain ⟨b0, a3, hg⟩ := zB hg
 refine S s<|sw<|sw<|lw<|mw q<|mw q fun a s => ?_
 refine lC s q func25 (c_module_needs n _ _ s.lt _ _ _ (s.ft 101 q) _ (by omega) _ a3) fun X3 a w hK hp s => ?_
 obtain ⟨j0, k0, rfl, g3⟩ := hp
 refine S s<|nsw 117 g3<|yw q (lS · q u25)<|mw q<|nw fun a s => ?_
 obtain ⟨H1, hg, B2⟩ := zJ hg
 refine c_post (fun a w => ∃ (h0 : (List (List UInt8))) (A39 : OA) (g0 : Nat) (Q0 : List Value), H1 h0 = some r ∧ St (cx f15 M w0) [(5, sl A39 h0 g0)] [(700118, Ob.row (A39) ((h0).length) (g0) 9 1 (Q0))] [(119, rdF Rep.str (Q0) (h0))] a w) ?_ ?_
 ·apply wp_block
  replace s := s.al 121 105 q
  replace s := s.pk [(700120, 700104)] (by decide)
  refine c_loop (σ := Nat) (fun m2 a w => ∃ (t0 : (List (List UInt8))) (i0 : Nat) (A43 : OA) (P0 : Nat) (R0 : List Value), module_Visible_L1 n t_ b0 H1 m2 t0 i0 = some r ∧ St (cx f15 M w0) [(0, sl c0 t_ d0), (5, sl A43 t0 P0), (30, sl j0 b0 k0), (31, vI ((((b0).length : Nat) : Int))), (32, vI (((i0 : Nat) : Int)))] [(700120, Ob.row (A43) ((t0).length) (P0) 9 1 (R0))] [(101, sF RModule c0 d0 t_), (117, sF Rep.str j0 k0 b0), (121, rdF Rep.str (R0) (t0))] a w) (fun m2 => m2) n ⟨(G0), (0), (A8), (c9), (h1), hg, (s.sb q q q)⟩ ?_
  clear s a; rintro m2 a w ⟨t0, i0, A43, P0, R0, hg, s⟩
  rcases m2 with _ | m2
  ·rw [module_Visible_L1] at hg; cases hg
  rw [module_Visible_L1] at hg
  refine S s<|vw<|yw q (y_lssN (i := i0) (j := ((b0).length)) · q q)<|nw<|sw fun a s => c_dec s q (fun n1 => ?_) (fun n1 => ?_)
  ·replace hg := br_t hg n1
   have F3 := SlR.mx (s.ft 117 q)
   apply wp_skip
   apply pN
   apply wQ
   obtain ⟨I1, hg, C2⟩ := zJ hg
   refine c_post (fun a w => ∃ (E0 : (List (List UInt8))) (A51 : OA) (c1 : Nat) (i1 : List Value), I1 E0 = some r ∧ St (cx f15 M w0) [(0, sl c0 t_ d0), (5, sl A51 E0 c1), (30, sl j0 b0 k0), (31, vI ((((b0).length : Nat) : Int))), (32, vI (((i0 : Nat) : Int)))] [(700122, Ob.row (A51) ((E0).length) (c1) 9 1 (i1))] [(101, sF RModule c0 d0 t_), (117, sF Rep.str j0 k0 b0), (123, rdF Rep.str (i1) (E0))] a w) ?_ ?_
   ·obtain ⟨Z3, F1, hg⟩ := zB hg
    apply wp_block
    apply wQ
    apply wL
    obtain ⟨S3, x2, H2, L2, C3, t2, p2⟩ := SlR.elemX (s.ft 117 q) F1
    refine qq s q (eL 1 i0 s u25 x2 (lt_of_get F1) q) fun a s => ?_
    obtain ⟨rfl, M3⟩ := t2
    obtain ⟨a0, b3, hg⟩ := zB hg
    refine S s<|yw q (lP · H2 L2 (p2 0 _ q) u9 q)<|aw q<|nw<|sw<|lw<|mw q<|mw q fun a s => ?_
    refine lC s q func27 (c_module_find n _ _ s.lt _ _ _ (s.ft 101 q) _ (by omega) _ b3) fun Y3 a w hK hp s => ?_
    obtain ⟨I0, T0, x0, C0, q0, r0, J0, U0, K0, V0, L0, X0, M0, Y0, O0, Z0, H0, S0, rfl, P3, j3, k3, l3, n3, o3, p3, q3, r3, i3⟩ := hp
    refine S s<|nsw 133 j3<|nsw 134 k3<|nsw 135 l3<|nsw 136 n3<|nsw 137 o3<|nsw 138 p3<|nsw 139 q3<|nsw 140 r3<|nsw 141 i3<|mw q<|yw q (y_extract · q q)<|yw q (y_extract · q q) fun a s => ?_
    refine l_seq q (l_alloc (zs := [vT ([]), nS, nS, nS, nS, nS, nS, nS, nS, nS]) s 2006 q q q q fun a1 a w hb hK s => ?_)
    refine l_seq q (l_store (n := 10) (cs' := [vT a0.1.Name, sl I0 a0.1.Imports T0, sl x0 a0.1.Types C0, sl q0 a0.1.Templates r0, sl J0 a0.1.Entries U0, sl K0 a0.1.LexRules V0, sl L0 a0.1.Rules X0, sl M0 a0.1.Roots Y0, sl O0 a0.1.Checks Z0, sl H0 a0.1.Drops S0]) s 2006 q q q q q q q q ?_); clear s; intro w hK s; clear hK
    refine S s<|aw q<|nw<|sw<|vw<|yw q (bF 2 · u38 q)<|yw q (lB 2006 · u32 q)<|yw q (lS · q u32)<|mw q<|nw fun a s => ?_
    obtain ⟨J1, hg, E2⟩ := zJ hg
    refine c_post (fun a w => ∃ (F0 : (List (List UInt8))) (A68 : OA) (d1 : Nat) (j1 : List Value), J1 F0 = some r ∧ St (cx f15 M w0) [(0, sl c0 t_ d0), (5, sl A68 F0 d1), (10, vP a1 0), (30, sl j0 b0 k0), (31, vI ((((b0).length : Nat) : Int))), (32, vI (((i0 : Nat) : Int)))] [(2006, Ob.box a1 [vT a0.1.Name, sl I0 a0.1.Imports T0, sl x0 a0.1.Types C0, sl q0 a0.1.Templates r0, sl J0 a0.1.Entries U0, sl K0 a0.1.LexRules V0, sl L0 a0.1.Rules X0, sl M0 a0.1.Roots Y0, sl O0 a0.1.Checks Z0, sl H0 a0.1.Drops S0] 38), (700142, Ob.row (A68) ((F0).length) (d1) 9 1 (j1))] [(101, sF RModule c0 d0 t_), (117, sF Rep.str j0 k0 b0), (133, sF Rep.str I0 T0 a0.1.Imports), (134, sF RTypeDecl x0 C0 a0.1.Types), (135, sF RDef q0 r0 a0.1.Templates), (136, sF REntryDecl J0 U0 a0.1.Entries), (137, sF RLexDecl K0 V0 a0.1.LexRules), (138, sF RDef L0 X0 a0.1.Rules), (139, sF RDef M0 Y0 a0.1.Roots), (140, sF (Rep.list Rep.str) O0 Z0 a0.1.Checks), (141, sF Rep.str H0 S0 a0.1.Drops), (143, rdF Rep.str (j1) (F0))] a w) ?_ ?_
    ·apply wp_block
     replace s := s.al 145 121 q
     replace s := s.pk [(2006, 2006), (700144, 700120)] (by decide)
     refine c_loop (σ := Nat) (fun m3 a w => ∃ (o0 : (List (List UInt8))) (u0 : Nat) (A72 : OA) (e1 : Nat) (z0 : List Value), module_Visible_L2 n a0 J1 m3 o0 u0 = some r ∧ St (cx f15 M w0) [(0, sl c0 t_ d0), (5, sl A72 o0 e1), (10, vP a1 0), (30, sl j0 b0 k0), (31, vI ((((b0).length : Nat) : Int))), (32, vI (((i0 : Nat) : Int))), (43, sl x0 a0.1.Types C0), (44, vI ((((a0.1.Types).length : Nat) : Int))), (45, vI (((u0 : Nat) : Int)))] [(2006, Ob.box a1 [vT a0.1.Name, sl I0 a0.1.Imports T0, sl x0 a0.1.Types C0, sl q0 a0.1.Templates r0, sl J0 a0.1.Entries U0, sl K0 a0.1.LexRules V0, sl L0 a0.1.Rules X0, sl M0 a0.1.Roots Y0, sl O0 a0.1.Checks Z0, sl H0 a0.1.Drops S0] 38), (700144, Ob.row (A72) ((o0).length) (e1) 9 1 (z0))] [(101, sF RModule c0 d0 t_), (117, sF Rep.str j0 k0 b0), (133, sF Rep.str I0 T0 a0.1.Imports), (134, sF RTypeDecl x0 C0 a0.1.Types), (135, sF RDef q0 r0 a0.1.Templates), (136, sF REntryDecl J0 U0 a0.1.Entries), (137, sF RLexDecl K0 V0 a0.1.LexRules), (138, sF RDef L0 X0 a0.1.Rules), (139, sF RDef M0 Y0 a0.1.Roots), (140, sF (Rep.list Rep.str) O0 Z0 a0.1.Checks), (141, sF Rep.str H0 S0 a0.1.Drops), (145, rdF Rep.str (z0) (o0))] a w) (fun m3 => m3) n ⟨(t0), (0), (A43), (P0), (R0), hg, (s.sb q q q)⟩ ?_
     clear s a; rintro m3 a w ⟨o0, u0, A72, e1, z0, hg, s⟩
     rcases m3 with _ | m3
     ·rw [module_Visible_L2] at hg; cases hg
     rw [module_Visible_L2] at hg
     refine S s<|vw<|yw q (y_lssN (i := u0) (j := ((a0.1.Types).length)) · q q)<|nw<|sw fun a s => c_dec s q (fun o1 => ?_) (fun o1 => ?_)
     ·replace hg := br_t hg o1
      have G3 := SlR.mx (s.ft 134 q)
      obtain ⟨m0, G1, hg⟩ := zB hg
      refine S s<|kw<|pw<|sw<|bw<|sw<|lw fun a s => ?_
      obtain ⟨T3, y2, I2, M2, D3, u2, q2⟩ := SlR.elemX (s.ft 134 q) G1
      refine qq s q (eL 3 u0 s u32 y2 (lt_of_get G1) q) fun a s => ?_
      obtain ⟨T1, e2, U1, g2, rfl, O3, U2, V2⟩ := RTypeDecl.open u2
      refine S s<|nsw 148 U2<|nsw 149 V2<|yw q (y_ldp · q I2 M2 (by simpa using q2) u49 q q) fun a s => ?_
      refine l_seq q (l_alloc (zs := [vT ([]), nS, nS]) s 2302 q q q q fun x3 a w hb hK s => ?_)
      refine l_seq q (l_store (n := 3) (cs' := [vT m0.Name, sl T1 m0.Supers e2, sl U1 m0.Feats g2]) s 2302 q q q q q q q q ?_); clear s; intro w hK s; clear hK
      obtain ⟨B1, hg⟩ := zC hg
      refine S s<|nw<|lw<|mw q<|yw q (bF 0 · u49 q)<|yw q (lB 2302 · u9 q) fun a s => ?_
      refine l_seq q (l_buildDense (sz := 1) s 2403 q q q u25 q q q q q q q fun y3 a w l2 hK s => ?_)
      clear l2
      replace s := s.add 152 (rdF Rep.str (cellsOfL [vT m0.Name]) ([m0.Name])) (RdAll.cons (by exact ⟨q, (by omega)⟩) (rN))
      have e3 := row_src (s.wd.holds 2403 _ q) (RdAll.one (s.ft 152 q))
      refine l_seq q (l_append (sz := 1) (by_ := 16) (N := (o0 ++ [m0.Name]).length) s 700144 q q q u25 q q q q q e3 (by rw [List.length_append]; try rfl) q (rmA B1 q) (rmB B1) q fun V1 h2 a w hA hK s => ?_)
      replace s := s.add 153 (rdF Rep.str (z0 ++ (cellsOfL [vT m0.Name])) (o0 ++ [m0.Name])) (RdAll.append (s.ft 145 q) (s.ft 152 q))
      refine asg s q q fun a s => ?_
      apply wO
      refine p_inN ?_
      refine S s<|pw<|lw<|yw q (y_addN (i := u0) (j := 1) · q q (in64.2 (by omega)))<|mw q<|nw<|alw 145 153 q fun a s => ?_
      exact ⟨m3, Nat.lt_succ_self _, ⟨(o0 ++ [m0.Name]), (u0 + 1), (V1), (h2), (z0 ++ (cellsOfL [vT m0.Name])), hg, (s.sb q q q)⟩⟩
     replace hg := br_f hg o1
     apply wp_exit
     refine p_then ?_
     refine p_then ?_
     refine p_in ?_
     apply pN
     replace s := s.al 143 145 q
     replace s := s.pk [(2006, 2006), (700142, 700144)] (by decide)
     exact ⟨(o0), (A72), (e1), (z0), hg, (s.sb q q q)⟩
    clear s a; rintro a w ⟨F0, A68, d1, j1, hg, s⟩
    subst E2
    refine S s<|vw<|yw q (bF 3 · u38 q)<|yw q (lB 2006 · u33 q)<|yw q (lS · q u33)<|mw q<|nw<|bw<|alw 155 143 q fun a s => ?_
    replace s := s.pk [(2006, 2006), (700154, 700142)] (by decide)
    refine c_loop (σ := Nat) (fun m4 a w => ∃ (p0 : (List (List UInt8))) (v0 : Nat) (A93 : OA) (g1 : Nat) (B0 : List Value), module_Visible_L3 n I1 a0 m4 p0 v0 = some r ∧ St (cx f15 M w0) [(0, sl c0 t_ d0), (5, sl A93 p0 g1), (30, sl j0 b0 k0), (31, vI ((((b0).length : Nat) : Int))), (32, vI (((i0 : Nat) : Int))), (56, sl q0 a0.1.Templates r0), (57, vI ((((a0.1.Templates).length : Nat) : Int))), (58, vI (((v0 : Nat) : Int)))] [(700154, Ob.row (A93) ((p0).length) (g1) 9 1 (B0))] [(101, sF RModule c0 d0 t_), (117, sF Rep.str j0 k0 b0), (135, sF RDef q0 r0 a0.1.Templates), (155, rdF Rep.str (B0) (p0))] a w) (fun m4 => m4) n ⟨(F0), (0), (A68), (d1), (j1), hg, (s.sb q q q)⟩ ?_
    clear s a; rintro m4 a w ⟨p0, v0, A93, g1, B0, hg, s⟩
    rcases m4 with _ | m4
    ·rw [module_Visible_L3] at hg; cases hg
    rw [module_Visible_L3] at hg
    refine S s<|vw<|yw q (y_lssN (i := v0) (j := ((a0.1.Templates).length)) · q q)<|nw<|sw fun a s => c_dec s q (fun p1 => ?_) (fun p1 => ?_)
    ·replace hg := br_t hg p1
     have H3 := SlR.mx (s.ft 135 q)
     obtain ⟨e0, D1, hg⟩ := zB hg
     refine S s<|kw<|pw<|sw<|bw<|sw<|lw fun a s => ?_
     obtain ⟨Q3, v2, F2, J2, z3, r2, n2⟩ := SlR.elemX (s.ft 135 q) D1
     refine qq s q (eL 6 v0 s u33 v2 (lt_of_get D1) q) fun a s => ?_
     obtain ⟨L1, X1, M1, Y1, O1, Z1, rfl, J3, K3, P2, Q2, R2⟩ := RDef.open r2
     refine S s<|nsw 159 P2<|nsw 160 Q2<|nsw 161 R2<|yw q (y_ldp · q F2 J2 (by simpa using n2) u62 q q) fun a s => ?_
     refine l_seq q (l_alloc (zs := [vT ([]), vI 0, vT ([]), nS, nS, nS]) s 2802 q q q q fun s3 a w hb hK s => ?_)
     refine l_seq q (l_store (n := 6) (cs' := [vT e0.Name, vI e0.Strict.Op, vT e0.Strict.Name, sl L1 e0.Strict.Path X1, sl M1 e0.Strict.Kids Y1, sl O1 e0.Defaults Z1]) s 2802 q q q q q q q q ?_); clear s; intro w hK s; clear hK
     obtain ⟨z2, hg⟩ := zC hg
     obtain ⟨y1, hg⟩ := zC hg
     refine S s<|nw<|lw<|mw q<|yw q (bF 0 · u62 q)<|yw q (lB 2802 · u9 q)<|yw q (y_concat · q q z2) fun a s => ?_
     refine l_seq q (l_buildDense (sz := 1) s 2904 q q q u25 q q q q q q q fun t3 a w j2 hK s => ?_)
     clear j2
     replace s := s.add 164 (rdF Rep.str (cellsOfL [vT ([64] ++ e0.Name)]) ([[64] ++ e0.Name])) (RdAll.cons (by exact ⟨q, (by rw [List.length_append]; omega)⟩) (rN))
     have c3 := row_src (s.wd.holds 2904 _ q) (RdAll.one (s.ft 164 q))
     refine l_seq q (l_append (sz := 1) (by_ := 16) (N := (p0 ++ [[64] ++ e0.Name]).length) s 700154 q q q u25 q q q q q c3 (by simp only [List.length_append]; try rfl) q (rmA y1 q) (rmB y1) q fun P1 a2 a w hA hK s => ?_)
     replace s := s.add 165 (rdF Rep.str (B0 ++ (cellsOfL [vT ([64] ++ e0.Name)])) (p0 ++ [[64] ++ e0.Name])) (RdAll.append (s.ft 155 q) (s.ft 164 q))
     refine asg s q q fun a s => ?_
     apply wO
     refine p_inN ?_
     refine S s<|pw<|lw<|yw q (y_addN (i := v0) (j := 1) · q q (in64.2 (by omega)))<|mw q<|nw<|alw 155 165 q fun a s => ?_
     exact ⟨m4, Nat.lt_succ_self _, ⟨(p0 ++ [[64] ++ e0.Name]), (v0 + 1), (P1), (a2), (B0 ++ (cellsOfL [vT ([64] ++ e0.Name)])), hg, (s.sb q q q)⟩⟩
    replace hg := br_f hg p1
    apply wp_exit
    refine p_then ?_
    refine p_then ?_
    refine p_in ?_
    refine p_inN ?_
    apply pN
    replace s := s.al 123 155 q
    replace s := s.pk [(700122, 700154)] (by decide)
    exact ⟨(p0), (A93), (g1), (B0), hg, (s.sb q q q)⟩
   clear s a; rintro a w ⟨E0, A51, c1, i1, hg, s⟩
   subst C2
   refine S s<|lw<|yw q (y_addN (i := i0) (j := 1) · q q (in64.2 (by omega)))<|mw q<|nw<|alw 121 123 q fun a s => ?_
   replace s := s.pk [(700120, 700122)] (by decide)
   exact ⟨m2, Nat.lt_succ_self _, ⟨(E0), (i0 + 1), (A51), (c1), (i1), hg, (s.sb q q q)⟩⟩
  replace hg := br_f hg n1
  apply wp_exit
  refine p_then ?_
  refine p_then ?_
  refine p_in ?_
  apply pN
  replace s := s.al 119 121 q
  replace s := s.pk [(700118, 700120)] (by decide)
  exact ⟨(t0), (A43), (P0), (R0), hg, (s.sb q q q)⟩
 clear s a; rintro a w ⟨h0, A39, g0, Q0, hg, s⟩
 subst B2
 obtain ⟨D0, Y2, hg⟩ := zB hg
 refine S s<|sw<|lw<|mw q fun a s => ?_
 have hT := s.pk [(9200000, 700118)] (by decide)
 replace hT := hT.al 9300000 119 q
 refine l_seq q (l_callMut (cap := []) hT _ [] (sbA (by rfl)) trivial (by rfl) q func32 q (by kernel_rfl) q q (c_slices_Sort_string n _ _ (hT.restLt []) _ h0 (A39) (g0) (Q0) (hT.wd.lendL _ _ _ (sbA (by rfl)) (keep_sub []) (by rfl) (sbA (by rfl))) D0 Y2) ?_); intro U3 a' w' hK hp hF
 obtain ⟨csm0_0u118, rfl, w1⟩ := hp
 have k1 := St.mk hF (hT.wd.back (sbA (by rfl)) (keep_sub []) (by rfl) w1 (by rfl))
 clear s hT hF w1 hK; revert k1; revert w'; revert a'; intro a w s
 replace s := s.al 167 9300000 q
 replace s := s.ren [(700118, Ob.row (A39) ((h0).length) (g0) 9 1 (csm0_0u118))] [9200000] ⟨q, trivial⟩ (by decide)
 replace s := s.sub (l' := [(5, .slice (A39) ((h0).length) (g0)), (70, .slice (A39) ((h0).length) (g0)), (71, .tuple #[])]) (L' := [(700118, Ob.row (A39) ((h0).length) (g0) 9 1 (csm0_0u118))]) (D' := [(119, rdF Rep.str (Q0) (h0)), (167, rdF Rep.str (csm0_0u118) (D0))]) ⟨q, q, q, trivial⟩ ⟨q, trivial⟩ ⟨q, q, trivial⟩
 have C1 := rowN (s.wd.holds 700118 _ q) (s.ft 167 q) q q
 replace s := s.eqs (l' := [(5, .slice (A39) ((D0).length) (g0)), (70, .slice (A39) ((D0).length) (g0)), (71, .tuple #[])]) (L' := [(700118, Ob.row (A39) ((D0).length) (g0) 9 1 (csm0_0u118))]) (by simp only [C1]) (by simp only [C1])
 obtain ⟨K1, Z2, hg⟩ := zB hg
 refine S s<|nw<|sw<|lw<|mw q fun a s => ?_
 have hT := s.pk [(9200000, 700118)] (by decide)
 replace hT := hT.al 9300000 167 q
 refine l_seq q (l_callMut (cap := []) hT _ [] (sbA (by rfl)) trivial (by rfl) q func33 q (by kernel_rfl) q q (c_slices_Compact_string n _ _ (hT.restLt []) _ D0 (A39) (g0) (csm0_0u118) (hT.wd.lendL _ _ _ (sbA (by rfl)) (keep_sub []) (by rfl) (sbA (by rfl))) K1 Z2) ?_); intro V3 a' w' hK hp hF
 obtain ⟨Aou123, u1, i2, rfl, x1⟩ := hp
 have k1 := St.mk hF (hT.wd.back (sbA (by rfl)) (keep_sub []) (by rfl) x1 (by rfl))
 clear s hT hF x1 hK; revert k1; revert w'; revert a'; intro a w s
 replace s := s.al 169 9300000 q
 replace s := s.ren [(700118, Ob.row (Aou123) ((K1).length) (u1) 9 1 (i2))] [9200000] ⟨q, trivial⟩ (by decide)
 refine S s<|aw q<|nw fun a s => ?_
 apply wp_ret
 obtain rfl := si hg
 refine fin1 (fn := Tryz.f15) s q (r_tmp s q) ?_
 exact ⟨(Aou123), (u1), q, (s.rowOut (R := Rep.str) (kk := 700118) q q (s.ft 169 q))⟩
theorem c_slices_Concat_TypeDecl (n : Nat) (M : Bs) (w0 : World) (hM : bM M w0) (slices_ : (List (List TypeDecl))) (a0 : OA) (b0 : Nat) (T0 : sR (Rep.list RTypeDecl) M w0 a0 b0 slices_) (r : (List TypeDecl)) (hg : slices_Concat_TypeDecl n slices_ = some r) :
    CA Tryz.prog 61 [sl a0 slices_ b0] w0 (fun v w => ∃ (Ao : OA), ∃ (co : Nat), ∃ (cso : List Value), v = sl Ao r co ∧ ((Ob.row Ao (r).length co 49 3 cso).holds w) ∧ (∀ b, (Ob.row Ao (r).length co 49 3 cso).ids b → w0.heap.size ≤ b) ∧ (RdAll RTypeDecl (fun b => M b ∨ (Ob.row Ao (r).length co 49 3 cso).ids b) w cso (r))) := by
 unfold slices_Concat_TypeDecl at hg
 refine enter M noB func61 q q hM ?_
 intro a s
 refine S s<|esw 101 T0<|vw<|aw q<|nw<|vw<|aw q<|nw<|sw<|vw<|mw q<|yw q (lS · q u132)<|mw q<|nw fun a s => ?_
 obtain ⟨k1, hg, I0⟩ := zJ hg
 refine c_post (fun a w => ∃ (k0 : Nat), k1 k0 = some r ∧ St (cx f61 M w0) [(0, sl a0 slices_ b0), (3, vI (((k0 : Nat) : Int)))] [] [(101, sF (Rep.list RTypeDecl) a0 b0 slices_)] a w) ?_ ?_
 ·apply wp_block
  refine c_loop (σ := Nat) (fun m1 a w => ∃ (d0 : Nat) (g0 : Nat), slices_Concat_TypeDecl_L0 n slices_ k1 m1 d0 g0 = some r ∧ St (cx f61 M w0) [(0, sl a0 slices_ b0), (3, vI (((d0 : Nat) : Int))), (9, sl a0 slices_ b0), (10, vI ((((slices_).length : Nat) : Int))), (11, vI (((g0 : Nat) : Int)))] [] [(101, sF (Rep.list RTypeDecl) a0 b0 slices_)] a w) (fun m1 => m1) n ⟨(0), (0), hg, (s.sb q q q)⟩ ?_
  clear s a; rintro m1 a w ⟨d0, g0, hg, s⟩
  rcases m1 with _ | m1
  ·rw [slices_Concat_TypeDecl_L0] at hg; cases hg
  rw [slices_Concat_TypeDecl_L0] at hg
  refine S s<|vw<|yw q (y_lssN (i := g0) (j := ((slices_).length)) · q q)<|nw<|sw fun a s => c_dec s q (fun o0 => ?_) (fun o0 => ?_)
  ·replace hg := br_t hg o0
   have g1 := SlR.mx (s.ft 101 q)
   obtain ⟨x8, v0, hg⟩ := zB hg
   refine S s<|kw<|pw<|sw<|bw<|sw<|lw fun a s => ?_
   obtain ⟨j1, G0, J0, L0, b1, E0, C0⟩ := SlR.elemX (s.ft 101 q) v0
   refine qq s q (eL 1 g0 s u132 G0 (lt_of_get v0) q) fun a s => ?_
   obtain ⟨X0, h1, Z0, rfl, s0⟩ := E0
   obtain rfl := s0.len
   obtain ⟨d1, hg⟩ := zC hg
   refine S s<|nsw 103 s0<|yw q (lP · J0 L0 (C0 0 _ q) u32 q)<|aw q<|nw<|sw<|lw<|mw q<|mw q<|yw q (lS · q u32)<|yw q (y_addN (i := d0) (j := ((x8).length)) · q q (in64.2 (by omega)))<|aw q<|nw<|vw<|mw q<|yw q (y_lssN (i := (d0 + (x8).length)) (j := 0) · q q)<|nw fun a s => c_dec s q (fun m0 => ?_) (fun m0 => ?_)
   ·replace hg := br_t hg m0
    cases hg
   replace hg := br_f hg m0
   apply wp_skip
   refine p_inN ?_
   refine S s<|pw<|lw<|yw q (y_addN (i := g0) (j := 1) · q q (in64.2 (by omega)))<|mw q<|nw fun a s => ?_
   exact ⟨m1, Nat.lt_succ_self _, ⟨(d0 + (x8).length), (g0 + 1), hg, (s.sb q q q)⟩⟩
  replace hg := br_f hg o0
  apply wp_exit
  refine p_then ?_
  refine p_then ?_
  refine p_in ?_
  apply pN
  exact ⟨(d0), hg, (s.sb q q q)⟩
 clear s a; rintro a w ⟨k0, hg, s⟩
 subst I0
 obtain ⟨i0, U0, hg⟩ := zB hg
 refine S s<|sw<|lw<|mw q fun a s => ?_
 refine l_seq q (l_callOwn (cap := []) (post := (fun v ob w' => ∃ Ao co cso, ob = Ob.row Ao (i0).length co 49 3 cso ∧ v = sl Ao i0 co ∧ RdAll RTypeDecl (fun b => mtb _ _ b ∨ ob.ids b) w' cso (i0))) s 1901 q q func102 q (by kernel_rfl) q q ((c_slices_Grow_TypeDecl n _ _ s.lt ((k0 : Nat) : Int) i0 U0).mono (fun e w' h => by obtain ⟨v, he, hk, Ao, co, cso, hv, P0, Q0, R0⟩ := h; exact ⟨v, he, hk, _, P0, Q0, ⟨Ao, co, cso, q, hv, R0⟩⟩)) fun n1 ob a w hK hp s => ?_)
 obtain ⟨y0, B0, q0, rfl, rfl, S0⟩ := hp
 replace s := s.add 105 (rdF RTypeDecl q0 (i0)) (RdAll.up2 s S0)
 refine S s<|aw q<|nw<|sw<|vw<|mw q<|yw q (lS · q u132)<|mw q<|nw<|bw<|alw 107 105 q fun a s => ?_
 replace s := s.pk [(700106, 1901)] (by decide)
 refine c_loop (σ := Nat) (fun m2 a w => ∃ (c0 : (List TypeDecl)) (e0 : Nat) (A20 : OA) (j0 : Nat) (h0 : List Value), slices_Concat_TypeDecl_L1 n slices_ m2 c0 e0 = some r ∧ St (cx f61 M w0) [(6, sl A20 c0 j0), (25, sl a0 slices_ b0), (26, vI ((((slices_).length : Nat) : Int))), (27, vI (((e0 : Nat) : Int)))] [(700106, Ob.row (A20) ((c0).length) (j0) 49 3 (h0))] [(101, sF (Rep.list RTypeDecl) a0 b0 slices_), (107, rdF RTypeDecl (h0) (c0))] a w) (fun m2 => m2) n ⟨(i0), (0), (y0), (B0), (q0), hg, (s.sb q q q)⟩ ?_
 clear s a; rintro m2 a w ⟨c0, e0, A20, j0, h0, hg, s⟩
 rcases m2 with _ | m2
 ·rw [slices_Concat_TypeDecl_L1] at hg; cases hg
 rw [slices_Concat_TypeDecl_L1] at hg
 refine S s<|vw<|yw q (y_lssN (i := e0) (j := ((slices_).length)) · q q)<|nw<|sw fun a s => c_dec s q (fun n0 => ?_) (fun n0 => ?_)
 ·replace hg := br_t hg n0
  have e1 := SlR.mx (s.ft 101 q)
  obtain ⟨l0, u0, hg⟩ := zB hg
  refine S s<|kw<|pw<|sw<|bw<|sw<|lw fun a s => ?_
  obtain ⟨l1, H0, K0, M0, c1, F0, D0⟩ := SlR.elemX (s.ft 101 q) u0
  refine qq s q (eL 1 e0 s u132 H0 (lt_of_get u0) q) fun a s => ?_
  obtain ⟨Y0, i1, a1, rfl, t0⟩ := F0
  obtain rfl := t0.len
  obtain ⟨r0, hg⟩ := zC hg
  refine S s<|nsw 109 t0<|yw q (lP · K0 M0 (D0 0 _ q) u32 q)<|aw q<|nw<|lw<|mw q<|mw q fun a s => ?_
  obtain ⟨p0, V0, O0⟩ := SlR.src (s.ft 109 q)
  replace s := s.add 112 (rdF RTypeDecl p0 (l0)) O0
  refine l_seq q (l_append (sz := 3) (by_ := 64) (N := (c0 ++ l0).length) s 700106 q q q u32 q q q q q V0 (by rw [List.length_append]; try rfl) q (rmA r0 q) (rmB r0) q fun x0 z0 a w hA hK s => ?_)
  replace s := s.add 113 (rdF RTypeDecl (h0 ++ p0) (c0 ++ l0)) (RdAll.append (s.ft 107 q) (s.ft 112 q))
  refine asg s q q fun a s => ?_
  apply wO
  refine p_inN ?_
  refine S s<|pw<|lw<|yw q (y_addN (i := e0) (j := 1) · q q (in64.2 (by omega)))<|mw q<|nw<|alw 107 113 q fun a s => ?_
  exact ⟨m2, Nat.lt_succ_self _, ⟨(c0 ++ l0), (e0 + 1), (x0), (z0), (h0 ++ p0), hg, (s.sb q q q)⟩⟩
 replace hg := br_f hg n0
 apply wp_exit
 refine p_then ?_
 refine p_then ?_
 refine p_in ?_
 refine S s<|pw<|vw<|mw q<|aw q<|nw fun a s => ?_
 apply wp_ret
 obtain rfl := si hg
 refine fin1 (fn := Tryz.f61) s q (r_tmp s q) ?_
 exact ⟨(A20), (j0), (h0), q, (s.wd.holds 700106 _ q), (row_new s (kk := 700106) q q), (RdAll.own s (kk := 700106) q (s.ft 107 q))⟩
theorem c_slices_Clone_string (n : Nat) (M : Bs) (w0 : World) (hM : bM M w0) (s_ : (List (List UInt8))) (b0 : OA) (c0 : Nat) (l0 : sR Rep.str M w0 b0 c0 s_) (r : (List (List UInt8))) (hg : slices_Clone_string n s_ = some r) :
    CA Tryz.prog 105 [sl b0 s_ c0] w0 (fun v w => ∃ (Ao : OA), ∃ (co : Nat), ∃ (cso : List Value), v = sl Ao r co ∧ ((Ob.row Ao (r).length co 9 1 cso).holds w) ∧ (∀ b, (Ob.row Ao (r).length co 9 1 cso).ids b → w0.heap.size ≤ b) ∧ (RdAll Rep.str (fun b => M b ∨ (Ob.row Ao (r).length co 9 1 cso).ids b) w cso (r))) := by
 unfold slices_Clone_string at hg
 refine enter M noB func105 q q hM ?_
 intro a s
 refine S s<|esw 101 l0<|vw<|aw q<|nw<|sw<|vw<|mw q<|yw q (y_slnil · q q u25)<|nw fun a s => c_cond s q (fun d0 => ?_) (fun d0 => ?_)
 ·have hnil := SlR.nil0 (s.ft 101 q) (by simpa using d0)
  replace hg : (some []) = some r := by have h0 := hg; rw [hnil] at h0; simpa [chk] using h0
  refine S s<|vw<|aw q<|nw fun a s => ?_
  apply wp_ret
  refine p_thenR ?_
  obtain rfl := si hg
  refine fin1 (fn := Tryz.f105) s q (r_tmp s q) ?_
  exact ⟨none, 0, [], q, (World.ownsRow_nil _ 0 9 1), (fun b hb => by obtain ⟨p, hp, _⟩ := hb; cases hp), rN⟩
 obtain ⟨e0, hg⟩ := zC hg
 apply wp_skip
 apply pN
 apply wQ
 apply wL
 refine l_seq q (l_buildEmpty (sz := 1) s 1300 u25 q q q fun b6 a w j0 hK s => ?_)
 clear j0
 refine mv s q q fun a s => ?_
 replace s := s.add 105 (rdF Rep.str ([]) ([])) (rN)
 obtain ⟨a0, m0, k0⟩ := SlR.src (s.ft 101 q)
 replace s := s.add 106 (rdF Rep.str a0 (s_)) k0
 refine l_seq q (l_append (sz := 1) (by_ := 16) (N := (s_).length) (ys := a0) s 1300 q q q u25 q q q q q m0 (Nat.zero_add _) q (rmC e0 q) (rmD e0) q fun g0 i0 a w hA hK s => ?_)
 refine S s<|alw 107 106 q<|aw q<|nw fun a s => ?_
 apply wp_ret
 obtain rfl := si hg
 refine fin1 (fn := Tryz.f105) s q (r_tmp s q) ?_
 exact ⟨(g0), (i0), (a0), q, (s.wd.holds 1300 _ q), (row_new s (kk := 1300) q q), (RdAll.own s (kk := 1300) q (s.ft 107 q))⟩
theorem c_module_twice (n : Nat) (M : Bs) (w0 : World) (hM : bM M w0) (l_ : (List (List UInt8))) (a0 : OA) (b0 : Nat) (q0 : sR Rep.str M w0 a0 b0 l_) (r : Bool) (hg : module_twice n l_ = some r) :
    CA Tryz.prog 62 [sl a0 l_ b0] w0 (fun v w => v = .bool (r)) := by
 unfold module_twice at hg
 refine enter M noB func62 q q hM ?_
 intro a s
 obtain ⟨r3, t0, hg⟩ := zB hg
 refine S s<|esw 101 q0<|vw<|aw q<|nw<|sw<|lw<|mw q fun a s => ?_
 refine l_seq q (l_callOwn (cap := []) (post := (fun v ob w' => ∃ B, ob = Ob.box B [sl a0 l_ b0] 25 ∧ v = .func (.func 124) #[] #[vP B 0])) s 1101 q q func104 q (by kernel_rfl) q q (c_slicesValues _ _ _ _) fun v7 ob a w hK hp s => ?_)
 obtain ⟨b6, rfl, rfl⟩ := hp
 refine lC s q func103 (c_sortedValues n _ _ s.lt b6 a0 b0 l_ (s.wd.holds 1101 _ q) (s.ft 101 q) r3 t0) fun v8 a w hK hp s => ?_
 obtain ⟨v0, x0, rfl, u0⟩ := hp
 obtain ⟨c0, r0, hg⟩ := zB hg
 obtain ⟨d0, s0, hg⟩ := zB hg
 refine S s<|nsw 103 u0<|aw q<|nw<|sw<|lw<|mw q fun a s => ?_
 refine l_seq q (l_callOwn (cap := []) (post := (fun v ob w' => ∃ Ao co cso, ob = Ob.row Ao (c0).length co 9 1 cso ∧ v = sl Ao c0 co ∧ RdAll Rep.str (fun b => mtb _ _ b ∨ ob.ids b) w' cso (c0))) s 1201 q q func105 q (by kernel_rfl) q q ((c_slices_Clone_string n _ _ s.lt _ _ _ (s.ft 103 q) _ r0).mono (fun e w' h => by obtain ⟨v, he, hk, Ao, co, cso, hv, m0, n0, o0⟩ := h; exact ⟨v, he, hk, _, m0, n0, ⟨Ao, co, cso, q, hv, o0⟩⟩)) fun y0 ob a w hK hp s => ?_)
 obtain ⟨h0, k0, e0, rfl, rfl, p0⟩ := hp
 replace s := s.add 106 (rdF Rep.str e0 (c0)) (RdAll.up2 s p0)
 have hT := s.pk [(1101, 1101), (9200000, 1201)] (by decide)
 replace hT := hT.al 9300000 106 q
 refine l_seq q (l_callMut (cap := []) hT _ [] (sbA (by rfl)) trivial (by rfl) q func33 q (by kernel_rfl) q q (c_slices_Compact_string n _ _ (hT.restLt [1101]) _ c0 (h0) (k0) (e0) (hT.wd.lendL _ _ _ (sbA (by rfl)) (keep_sub [1101]) (by rfl) (sbA (by rfl))) d0 s0) ?_); intro z0 a' w' hK hp hF
 obtain ⟨Aou19, i0, j0, rfl, g0⟩ := hp
 have l0 := St.mk hF (hT.wd.back (sbA (by rfl)) (keep_sub [1101]) (by rfl) g0 (by rfl))
 clear s hT hF g0 hK; revert l0; revert w'; revert a'; intro a w s
 replace s := s.al 107 9300000 q
 replace s := s.ren [(1101, Ob.box b6 [sl a0 l_ b0] 25), (1201, Ob.row (Aou19) ((d0).length) (i0) 9 1 (j0))] [1101, 9200000] ⟨q, q, trivial⟩ (by decide)
 refine S s<|yw q (lS · q u25)<|mw q<|yw q (lS · q u25)<|yw q (y_lssN (i := ((d0).length)) (j := ((r3).length)) · q q)<|aw q<|nw fun a s => ?_
 apply wp_ret
 obtain rfl := si hg
 exact fT f62 s q q q
theorem c_module_names (n : Nat) (M : Bs) (w0 : World) (hM : bM M w0) (l_ : (List Def)) (c0 : OA) (d0 : Nat) (z0 : sR RDef M w0 c0 d0 l_) (r : (List (List UInt8))) (hg : module_names n l_ = some r) :
    CA Tryz.prog 63 [sl c0 l_ d0] w0 (fun v w => ∃ (g0 : OA), ∃ (h0 : Nat), v = sl g0 r h0 ∧ (SlR Rep.str M w g0 (r).length h0 (r))) := by
 unfold module_names at hg
 refine enter M noB func63 q q hM ?_
 intro a s
 refine S s<|esw 101 z0<|vw<|aw q<|nw<|vw<|aw q<|nw<|sw<|vw<|mw q<|yw q (lS · q u33)<|mw q<|nw<|bw fun a s => ?_
 replace s := s.nilRow 700102 9 1 q
 replace s := s.add 103 (rdF Rep.str [] []) (rN)
 refine c_loop (σ := Nat) (fun m1 a w => ∃ (out_1 : (List (List UInt8))) (a0 : Nat) (A2 : OA) (c3 : Nat) (b0 : List Value), module_names_L0 n l_ m1 out_1 a0 = some r ∧ St (cx f63 M w0) [(3, sl A2 out_1 c3), (6, sl c0 l_ d0), (7, vI ((((l_).length : Nat) : Int))), (8, vI (((a0 : Nat) : Int)))] [(700102, Ob.row (A2) ((out_1).length) (c3) 9 1 (b0))] [(101, sF RDef c0 d0 l_), (103, rdF Rep.str (b0) (out_1))] a w) (fun m1 => m1) n ⟨([]), (0), (none), (0), ([]), hg, (s.sb q q q)⟩ ?_
 clear s a; rintro m1 a w ⟨out_1, a0, A2, c3, b0, hg, s⟩
 rcases m1 with _ | m1
 ·rw [module_names_L0] at hg; cases hg
 rw [module_names_L0] at hg
 refine S s<|vw<|yw q (y_lssN (i := a0) (j := ((l_).length)) · q q)<|nw<|sw fun a s => c_dec s q (fun e0 => ?_) (fun e0 => ?_)
 ·replace hg := br_t hg e0
  have I0 := SlR.mx (s.ft 101 q)
  obtain ⟨x9, j0, hg⟩ := zB hg
  refine S s<|kw<|pw<|sw<|bw<|sw<|lw fun a s => ?_
  obtain ⟨L0, v0, x0, y0, H0, u0, t0⟩ := SlR.elemX (s.ft 101 q) j0
  refine qq s q (eL 6 a0 s u33 v0 (lt_of_get j0) q) fun a s => ?_
  obtain ⟨k0, o0, l0, p0, m0, q0, rfl, J0, K0, B0, C0, D0⟩ := RDef.open u0
  refine S s<|nsw 107 B0<|nsw 108 C0<|nsw 109 D0<|yw q (y_ldp · q x0 y0 (by simpa using t0) u62 q q) fun a s => ?_
  refine l_seq q (l_alloc (zs := [vT ([]), vI 0, vT ([]), nS, nS, nS]) s 1402 q q q q fun F0 a w hb hK s => ?_)
  refine l_seq q (l_store (n := 6) (cs' := [vT x9.Name, vI x9.Strict.Op, vT x9.Strict.Name, sl k0 x9.Strict.Path o0, sl l0 x9.Strict.Kids p0, sl m0 x9.Defaults q0]) s 1402 q q q q q q q q ?_); clear s; intro w hK s; clear hK
  obtain ⟨i0, hg⟩ := zC hg
  refine S s<|nw<|lw<|mw q<|yw q (bF 0 · u62 q)<|yw q (lB 1402 · u9 q) fun a s => ?_
  refine l_seq q (l_buildDense (sz := 1) s 1503 q q q u25 q q q q q q q fun G0 a w s0 hK s => ?_)
  clear s0
  replace s := s.add 112 (rdF Rep.str (cellsOfL [vT x9.Name]) ([x9.Name])) (RdAll.cons (by exact ⟨q, (by omega)⟩) (rN))
  have E0 := row_src (s.wd.holds 1503 _ q) (RdAll.one (s.ft 112 q))
  refine l_seq q (l_append (sz := 1) (by_ := 16) (N := (out_1 ++ [x9.Name]).length) s 700102 q q q u25 q q q q q E0 (by rw [List.length_append]; try rfl) q (rmA i0 q) (rmB i0) q fun n0 r0 a w hA hK s => ?_)
  replace s := s.add 113 (rdF Rep.str (b0 ++ (cellsOfL [vT x9.Name])) (out_1 ++ [x9.Name])) (RdAll.append (s.ft 103 q) (s.ft 112 q))
  refine asg s q q fun a s => ?_
  apply wO
  refine p_inN ?_
  refine S s<|pw<|lw<|yw q (y_addN (i := a0) (j := 1) · q q (in64.2 (by omega)))<|mw q<|nw<|alw 103 113 q fun a s => ?_
  exact ⟨m1, Nat.lt_succ_self _, ⟨(out_1 ++ [x9.Name]), (a0 + 1), (n0), (r0), (b0 ++ (cellsOfL [vT x9.Name])), hg, (s.sb q q q)⟩⟩
 replace hg := br_f hg e0
 apply wp_exit
 refine p_then ?_
 refine p_then ?_
 refine p_in ?_
 refine S s<|pw<|vw<|mw q<|aw q<|nw fun a s => ?_
 apply wp_ret
 obtain rfl := si hg
 refine fin1 (fn := Tryz.f63) s q (r_tmp s q) ?_
 exact ⟨(A2), (c3), q, (s.rowOut (R := Rep.str) (kk := 700102) q q (s.ft 103 q))⟩
theorem c_module_repeats (n : Nat) (M : Bs) (w0 : World) (hM : bM M w0) (t_ : Module) (G0 : OA) (R0 : Nat) (v0 : OA) (z0 : Nat) (H0 : OA) (S0 : Nat) (x0 : OA) (B0 : Nat) (y0 : OA) (C0 : Nat) (I0 : OA) (T0 : Nat) (J0 : OA) (U0 : Nat) (K0 : OA) (V0 : Nat) (F0 : OA) (Q0 : Nat) (k4 : (t_.Name).length ≤ 9223372036854775807) (K2 : sR Rep.str M w0 G0 R0 t_.Imports) (L2 : sR RTypeDecl M w0 v0 z0 t_.Types) (M2 : sR RDef M w0 H0 S0 t_.Templates) (O2 : sR REntryDecl M w0 x0 B0 t_.Entries) (P2 : sR RLexDecl M w0 y0 C0 t_.LexRules) (Q2 : sR RDef M w0 I0 T0 t_.Rules) (R2 : sR RDef M w0 J0 U0 t_.Roots) (S2 : sR (Rep.list Rep.str) M w0 K0 V0 t_.Checks) (J2 : sR Rep.str M w0 F0 Q0 t_.Drops) (r : Bool) (hg : module_repeats n t_ = some r) :
    CA Tryz.prog 36 [.agg #[vT t_.Name, sl G0 t_.Imports R0, sl v0 t_.Types z0, sl H0 t_.Templates S0, sl x0 t_.Entries B0, sl y0 t_.LexRules C0, sl I0 t_.Rules T0, sl J0 t_.Roots U0, sl K0 t_.Checks V0, sl F0 t_.Drops Q0]] w0 (fun v w => v = .bool (r)) := by
 unfold module_repeats at hg
 refine enter M noB func36 q q hM ?_
 intro a s
 let F : Al Fact := [(101, sF Rep.str G0 R0 t_.Imports), (102, sF RTypeDecl v0 z0 t_.Types), (103, sF RDef H0 S0 t_.Templates), (104, sF REntryDecl x0 B0 t_.Entries), (105, sF RLexDecl y0 C0 t_.LexRules), (106, sF RDef I0 T0 t_.Rules), (107, sF RDef J0 U0 t_.Roots), (108, sF (Rep.list Rep.str) K0 V0 t_.Checks), (109, sF Rep.str F0 Q0 t_.Drops)]
 let B : List Value := [vT t_.Name, sl G0 t_.Imports R0, sl v0 t_.Types z0, sl H0 t_.Templates S0, sl x0 t_.Entries B0, sl y0 t_.LexRules C0, sl I0 t_.Rules T0, sl J0 t_.Roots U0, sl K0 t_.Checks V0, sl F0 t_.Drops Q0]
 refine S s<|esw 101 K2<|esw 102 L2<|esw 103 M2<|esw 104 O2<|esw 105 P2<|esw 106 Q2<|esw 107 R2<|esw 108 S2<|esw 109 J2<|vw fun a s => ?_
 refine l_seq q (l_box (zs := B) s 1000 q q q q fun b2 a w hb hK s => ?_)
 obtain ⟨r3, e3, hg⟩ := zB hg
 obtain ⟨r7, g3, hg⟩ := zB hg
 refine S s<|aw q<|nw<|vw<|aw q<|aw q<|nw<|sw<|sw fun a s => ?_
 refine d_plan s [] [(1, some 0), (2, some 1000), (6, some 0), (0, none), (3, none), (4, none), (5, none)] q (by kernel_rfl) (by kernel_rfl) q ?_; clear s; intro wr hZ s; have hR := s.wd
 refine S s<|qw hR q (bF 2 · u38 q)<|qw hR q (lB 1000 · u32 q)<|qw hR q (mo · q) fun a s => ?_
 refine l_take s q q (l_call (cap := []) s q func31 q (by kernel_rfl) q q (c_hier_Prelude n _ _ s.lt  _ e3) fun w4 a w hK hp s => ?_)
 refine gz hZ hK fun hZ => ?_; clear hK
 obtain ⟨T1, j2, rfl, o3⟩ := hp
 replace s := s.ns 114 o3
 refine l_take s q q (l_buildDense (sz := 1) s 1203 q q q u132 q q q q q q q fun U1 a w r1 hK s => ?_)
 have e4 := NewA.lit hZ r1
 clear r1
 refine gz hZ hK fun hZ => ?_; clear hK
 replace s := s.add 115 (rdF (Rep.list RTypeDecl) (cellsOfL [sl T1 r3 j2, sl v0 t_.Types z0]) ([r3, t_.Types])) (RdAll.cons (by exact ⟨_, _, _, q, (s.ft 114 q)⟩) (RdAll.cons (by exact ⟨_, _, _, q, (s.ft 102 q)⟩) (rN)))
 replace s := s.freeze (R := (Rep.list RTypeDecl)) (kk := 1203) (L' := [(1000, Ob.box b2 B 38)]) 116 q q (s.ft 115 q) ⟨q, trivial⟩ q
 refine l_take s q q (l_callOwn (cap := []) (post := (fun v ob w' => ∃ Ao co cso, ob = Ob.row Ao (r7).length co 49 3 cso ∧ v = sl Ao r7 co ∧ RdAll RTypeDecl (fun b => mtb _ _ b ∨ ob.ids b) w' cso (r7) ∧ (∀ b, ob.ids b → _ ≤ b))) s 1204 q q func61 q (by kernel_rfl) q q ((c_slices_Concat_TypeDecl n _ _ s.lt [r3, t_.Types] (some ⟨U1, 0, none⟩) (2) (s.ft 116 q) _ g3).mono (fun e w' h => by obtain ⟨v, he, hk, Ao, co, cso, hv, G2, v1, H2⟩ := h; exact ⟨v, he, hk, _, G2, v1, ⟨Ao, co, cso, q, hv, H2, v1⟩⟩)) fun G4 ob a w hK hp s => ?_)
 obtain ⟨a1, l1, c1, rfl, rfl, I2, q1⟩ := hp
 have g4 : NewA wr a1 := NewA.grow hZ (fun p hp => q1 _ ⟨p, hp, q⟩)
 clear q1
 refine gz hZ hK fun hZ => ?_; clear hK
 replace s := s.add 117 (rdF RTypeDecl c1 (r7)) (RdAll.up2 s I2)
 refine S s<|tw q (lS · q u32) fun a s => ?_
 clear hR hZ
 apply pN
 obtain ⟨C1, hg, w2⟩ := zJ hg
 refine c_post (fun a w => ∃ (a0 : (List (List UInt8))) (A17 : OA) (e0 : Nat) (g0 : List Value), C1 a0 = some r ∧ St (cx f36 M w0) [(1, vP b2 0), (3, sl A17 a0 e0), (4, nS)] [(1000, Ob.box b2 B 38), (700118, Ob.row (A17) ((a0).length) (e0) 9 1 (g0))] (F ++ [(119, rdF Rep.str (g0) (a0))]) a w) ?_ ?_
 ·apply wp_block
  replace s := s.nilRow 700120 9 1 q
  replace s := s.add 121 (rdF Rep.str [] []) (rN)
  refine c_loop (σ := Nat) (fun m1 a w => ∃ (h0 : (List (List UInt8))) (m0 : Nat) (A21 : OA) (L0 : Nat) (p0 : List Value), module_repeats_L0 n r7 C1 m1 h0 m0 = some r ∧ St (cx f36 M w0) [(1, vP b2 0), (3, sl A21 h0 L0), (4, nS), (15, sl a1 r7 l1), (16, vI ((((r7).length : Nat) : Int))), (17, vI (((m0 : Nat) : Int)))] [(1000, Ob.box b2 B 38), (1204, Ob.row (a1) ((r7).length) (l1) 49 3 (c1)), (700120, Ob.row (A21) ((h0).length) (L0) 9 1 (p0))] (F ++ [(117, rdF RTypeDecl (c1) (r7)), (121, rdF Rep.str (p0) (h0))]) a w) (fun m1 => m1) n ⟨([]), (0), (none), (0), ([]), hg, (s.sb q q q)⟩ ?_
  clear s a; rintro m1 a w ⟨h0, m0, A21, L0, p0, hg, s⟩
  rcases m1 with _ | m1
  ·rw [module_repeats_L0] at hg; cases hg
  rw [module_repeats_L0] at hg
  refine S s<|vw<|yw q (y_lssN (i := m0) (j := ((r7).length)) · q q)<|nw<|sw fun a s => c_dec s q (fun d1 => ?_) (fun d1 => ?_)
  ·replace hg := br_t hg d1
   have h4 := row_mx (s.wd.holds 1204 _ q)
   obtain ⟨d0, y1, hg⟩ := zB hg
   refine S s<|kw<|pw<|sw<|bw<|sw<|lw fun a s => ?_
   obtain ⟨v2, S3, p1⟩ := SlR.row1 (s.wd.holds 1204 _ q) (s.ft 117 q) q q y1
   refine qq s q (y_rowIndex (sz := 3) (i := m0) s q q u32 q p1 q v2) fun a s => ?_
   have w3 := (s.ft 117 q).at_ _ _ y1
   obtain ⟨j1, n1, k1, o1, k2, p4, x3, y3⟩ := RTypeDecl.open w3
   refine S s<|nsw 124 x3<|nsw 125 y3<|yw q (y_loadRow (kk := 1204) (vs := [vT d0.Name, sl j1 d0.Supers n1, sl k1 d0.Feats o1]) · q q p1 k2 u49 q q) fun a s => ?_
   refine l_seq q (l_alloc (zs := [vT ([]), nS, nS]) s 1402 q q q q fun L3 a w hb hK s => ?_)
   refine l_seq q (l_store (n := 3) (cs' := [vT d0.Name, sl j1 d0.Supers n1, sl k1 d0.Feats o1]) s 1402 q q q q q q q q ?_); clear s; intro w hK s; clear hK
   obtain ⟨s1, hg⟩ := zC hg
   refine S s<|nw<|lw<|mw q<|yw q (bF 0 · u49 q)<|yw q (lB 1402 · u9 q) fun a s => ?_
   refine l_seq q (l_buildDense (sz := 1) s 1503 q q q u25 q q q q q q q fun M3 a w l2 hK s => ?_)
   clear l2
   replace s := s.add 128 (rdF Rep.str (cellsOfL [vT d0.Name]) ([d0.Name])) (RdAll.cons (by exact ⟨q, (by omega)⟩) (rN))
   have j3 := row_src (s.wd.holds 1503 _ q) (RdAll.one (s.ft 128 q))
   refine l_seq q (l_append (sz := 1) (by_ := 16) (N := (h0 ++ [d0.Name]).length) s 700120 q q q u25 q q q q q j3 (by rw [List.length_append]; try rfl) q (rmA s1 q) (rmB s1) q fun H1 V1 a w hA hK s => ?_)
   replace s := s.add 129 (rdF Rep.str (p0 ++ (cellsOfL [vT d0.Name])) (h0 ++ [d0.Name])) (RdAll.append (s.ft 121 q) (s.ft 128 q))
   refine asg s q q fun a s => ?_
   apply wO
   refine p_inN ?_
   refine S s<|pw<|lw<|yw q (y_addN (i := m0) (j := 1) · q q (in64.2 (by omega)))<|mw q<|nw<|alw 121 129 q fun a s => ?_
   exact ⟨m1, Nat.lt_succ_self _, ⟨(h0 ++ [d0.Name]), (m0 + 1), (H1), (V1), (p0 ++ (cellsOfL [vT d0.Name])), hg, (s.sb q q q)⟩⟩
  replace hg := br_f hg d1
  apply wp_exit
  refine p_then ?_
  refine p_then ?_
  refine p_in ?_
  apply pN
  replace s := s.al 119 121 q
  replace s := s.pk [(1000, 1000), (1204, 1204), (700118, 700120)] (by decide)
  exact ⟨(h0), (A21), (L0), (p0), hg, (s.sb q q q)⟩
 clear s a; rintro a w ⟨a0, A17, e0, g0, hg, s⟩
 subst w2
 refine S s<|sw<|vw<|yw q (bF 4 · u38 q)<|yw q (lB 1000 · u34 q)<|yw q (lS · q u34)<|mw q<|nw fun a s => ?_
 obtain ⟨D1, hg, x2⟩ := zJ hg
 refine c_post (fun a w => ∃ (u0 : (List (List UInt8))) (A43 : OA) (M0 : Nat) (X0 : List Value), D1 u0 = some r ∧ St (cx f36 M w0) [(1, vP b2 0), (3, sl A17 a0 e0), (4, sl A43 u0 M0)] [(1000, Ob.box b2 B 38), (700118, Ob.row (A17) ((a0).length) (e0) 9 1 (g0)), (700130, Ob.row (A43) ((u0).length) (M0) 9 1 (X0))] (F ++ [(119, rdF Rep.str (g0) (a0)), (131, rdF Rep.str (X0) (u0))]) a w) ?_ ?_
 ·apply wp_block
  replace s := s.nilRow 700132 9 1 q
  replace s := s.add 133 (rdF Rep.str [] []) (rN)
  refine c_loop (σ := Nat) (fun m2 a w => ∃ (i0 : (List (List UInt8))) (n0 : Nat) (A47 : OA) (O0 : Nat) (q0 : List Value), module_repeats_L1 n t_ D1 m2 i0 n0 = some r ∧ St (cx f36 M w0) [(1, vP b2 0), (3, sl A17 a0 e0), (4, sl A47 i0 O0), (28, sl x0 t_.Entries B0), (29, vI ((((t_.Entries).length : Nat) : Int))), (30, vI (((n0 : Nat) : Int)))] [(1000, Ob.box b2 B 38), (700118, Ob.row (A17) ((a0).length) (e0) 9 1 (g0)), (700132, Ob.row (A47) ((i0).length) (O0) 9 1 (q0))] (F ++ [(119, rdF Rep.str (g0) (a0)), (133, rdF Rep.str (q0) (i0))]) a w) (fun m2 => m2) n ⟨([]), (0), (none), (0), ([]), hg, (s.sb q q q)⟩ ?_
  clear s a; rintro m2 a w ⟨i0, n0, A47, O0, q0, hg, s⟩
  rcases m2 with _ | m2
  ·rw [module_repeats_L1] at hg; cases hg
  rw [module_repeats_L1] at hg
  refine S s<|vw<|yw q (y_lssN (i := n0) (j := ((t_.Entries).length)) · q q)<|nw<|sw fun a s => c_dec s q (fun e1 => ?_) (fun e1 => ?_)
  ·replace hg := br_t hg e1
   have i4 := SlR.mx (s.ft 104 q)
   obtain ⟨c0, z1, hg⟩ := zB hg
   refine S s<|kw<|pw<|sw<|bw<|sw<|lw fun a s => ?_
   obtain ⟨q4, t2, z2, C2, V3, r2, p2⟩ := SlR.elemX (s.ft 104 q) z1
   refine qq s q (eL 7 n0 s u34 t2 (lt_of_get z1) q) fun a s => ?_
   obtain ⟨I1, X1, J1, Y1, K1, Z1, L1, a2, rfl, T2, l4, m4, U2, V2, X2⟩ := REntryDecl.open r2
   refine S s<|nsw 138 T2<|nsw 139 U2<|nsw 140 V2<|nsw 141 X2<|yw q (y_ldp · q z2 C2 (by simpa using p2) u89 q q) fun a s => ?_
   refine l_seq q (l_alloc (zs := [nS, vT ([]), vI 0, vT ([]), nS, nS, nS]) s 1902 q q q q fun O3 a w hb hK s => ?_)
   refine l_seq q (l_store (n := 7) (cs' := [sl I1 c0.Words X1, vT c0.Def.Name, vI c0.Def.Strict.Op, vT c0.Def.Strict.Name, sl J1 c0.Def.Strict.Path Y1, sl K1 c0.Def.Strict.Kids Z1, sl L1 c0.Def.Defaults a2]) s 1902 q q q q q q q q ?_); clear s; intro w hK s; clear hK
   obtain ⟨t1, hg⟩ := zC hg
   refine S s<|nw<|lw<|mw q<|yw q (bF 1 · u89 q)<|yw q (bF 1 · u62 q)<|yw q (lB 1902 · u9 q) fun a s => ?_
   refine l_seq q (l_buildDense (sz := 1) s 2004 q q q u25 q q q q q q q fun P3 a w n2 hK s => ?_)
   clear n2
   replace s := s.add 144 (rdF Rep.str (cellsOfL [vT c0.Def.Name]) ([c0.Def.Name])) (RdAll.cons (by exact ⟨q, (by omega)⟩) (rN))
   have k3 := row_src (s.wd.holds 2004 _ q) (RdAll.one (s.ft 144 q))
   refine l_seq q (l_append (sz := 1) (by_ := 16) (N := (i0 ++ [c0.Def.Name]).length) s 700132 q q q u25 q q q q q k3 (by rw [List.length_append]; try rfl) q (rmA t1 q) (rmB t1) q fun M1 c2 a w hA hK s => ?_)
   replace s := s.add 145 (rdF Rep.str (q0 ++ (cellsOfL [vT c0.Def.Name])) (i0 ++ [c0.Def.Name])) (RdAll.append (s.ft 133 q) (s.ft 144 q))
   refine asg s q q fun a s => ?_
   apply wO
   refine p_inN ?_
   refine S s<|pw<|lw<|yw q (y_addN (i := n0) (j := 1) · q q (in64.2 (by omega)))<|mw q<|nw<|alw 133 145 q fun a s => ?_
   exact ⟨m2, Nat.lt_succ_self _, ⟨(i0 ++ [c0.Def.Name]), (n0 + 1), (M1), (c2), (q0 ++ (cellsOfL [vT c0.Def.Name])), hg, (s.sb q q q)⟩⟩
  replace hg := br_f hg e1
  apply wp_exit
  refine p_then ?_
  refine p_then ?_
  refine p_in ?_
  apply pN
  replace s := s.al 131 133 q
  replace s := s.pk [(1000, 1000), (700118, 700118), (700130, 700132)] (by decide)
  exact ⟨(i0), (A47), (O0), (q0), hg, (s.sb q q q)⟩
 clear s a; rintro a w ⟨u0, A43, M0, X0, hg, s⟩
 subst x2
 refine S s<|sw<|vw<|yw q (bF 5 · u38 q)<|yw q (lB 1000 · u35 q)<|yw q (lS · q u35)<|mw q<|nw fun a s => ?_
 obtain ⟨E1, hg, y2⟩ := zJ hg
 refine c_post (fun a w => ∃ (j0 : (List (List UInt8))) (A69 : OA) (b1 : Nat) (D0 : List Value), E1 j0 = some r ∧ St (cx f36 M w0) [(1, vP b2 0), (3, sl A17 a0 e0), (4, sl A69 j0 b1)] [(1000, Ob.box b2 B 38), (700118, Ob.row (A17) ((a0).length) (e0) 9 1 (g0)), (700146, Ob.row (A69) ((j0).length) (b1) 9 1 (D0))] (F ++ [(119, rdF Rep.str (g0) (a0)), (147, rdF Rep.str (D0) (j0))]) a w) ?_ ?_
 ·apply wp_block
  replace s := s.al 149 131 q
  replace s := s.pk [(1000, 1000), (700118, 700118), (700148, 700130)] (by decide)
  refine c_loop (σ := Nat) (fun m3 a w => ∃ (k0 : (List (List UInt8))) (o0 : Nat) (A73 : OA) (P0 : Nat) (r0 : List Value), module_repeats_L2 n t_ E1 m3 k0 o0 = some r ∧ St (cx f36 M w0) [(1, vP b2 0), (3, sl A17 a0 e0), (4, sl A73 k0 P0), (42, sl y0 t_.LexRules C0), (43, vI ((((t_.LexRules).length : Nat) : Int))), (44, vI (((o0 : Nat) : Int)))] [(1000, Ob.box b2 B 38), (700118, Ob.row (A17) ((a0).length) (e0) 9 1 (g0)), (700148, Ob.row (A73) ((k0).length) (P0) 9 1 (r0))] (F ++ [(119, rdF Rep.str (g0) (a0)), (149, rdF Rep.str (r0) (k0))]) a w) (fun m3 => m3) n ⟨(u0), (0), (A43), (M0), (X0), hg, (s.sb q q q)⟩ ?_
  clear s a; rintro m3 a w ⟨k0, o0, A73, P0, r0, hg, s⟩
  rcases m3 with _ | m3
  ·rw [module_repeats_L2] at hg; cases hg
  rw [module_repeats_L2] at hg
  refine S s<|vw<|yw q (y_lssN (i := o0) (j := ((t_.LexRules).length)) · q q)<|nw<|sw fun a s => c_dec s q (fun g1 => ?_) (fun g1 => ?_)
  ·replace hg := br_t hg g1
   have j4 := SlR.mx (s.ft 105 q)
   obtain ⟨b0, B1, hg⟩ := zB hg
   refine S s<|kw<|pw<|sw<|bw<|sw<|lw fun a s => ?_
   obtain ⟨r4, u2, B2, D2, X3, s2, q2⟩ := SlR.elemX (s.ft 105 q) B1
   refine qq s q (eL 8 o0 s u35 u2 (lt_of_get B1) q) fun a s => ?_
   obtain ⟨O1, d2, P1, e2, Q1, g2, R1, h2, rfl, Y2, n4, o4, Z2, a3, b3⟩ := RLexDecl.open s2
   refine S s<|nsw 154 Y2<|nsw 155 Z2<|nsw 156 a3<|nsw 157 b3<|yw q (y_ldp · q B2 D2 (by simpa using q2) u94 q q) fun a s => ?_
   refine l_seq q (l_alloc (zs := [vI 0, nS, vT ([]), vI 0, vT ([]), nS, nS, nS]) s 2402 q q q q fun Q3 a w hb hK s => ?_)
   refine l_seq q (l_store (n := 8) (cs' := [vI b0.Affix.Kind, sl O1 b0.Affix.Pairs d2, vT b0.Def.Name, vI b0.Def.Strict.Op, vT b0.Def.Strict.Name, sl P1 b0.Def.Strict.Path e2, sl Q1 b0.Def.Strict.Kids g2, sl R1 b0.Def.Defaults h2]) s 2402 q q q q q q q q ?_); clear s; intro w hK s; clear hK
   obtain ⟨u1, hg⟩ := zC hg
   refine S s<|nw<|lw<|mw q<|yw q (bF 2 · u94 q)<|yw q (bF 2 · u62 q)<|yw q (lB 2402 · u9 q) fun a s => ?_
   refine l_seq q (l_buildDense (sz := 1) s 2504 q q q u25 q q q q q q q fun R3 a w o2 hK s => ?_)
   clear o2
   replace s := s.add 160 (rdF Rep.str (cellsOfL [vT b0.Def.Name]) ([b0.Def.Name])) (RdAll.cons (by exact ⟨q, (by omega)⟩) (rN))
   have l3 := row_src (s.wd.holds 2504 _ q) (RdAll.one (s.ft 160 q))
   refine l_seq q (l_append (sz := 1) (by_ := 16) (N := (k0 ++ [b0.Def.Name]).length) s 700148 q q q u25 q q q q q l3 (by rw [List.length_append]; try rfl) q (rmA u1 q) (rmB u1) q fun S1 i2 a w hA hK s => ?_)
   replace s := s.add 161 (rdF Rep.str (r0 ++ (cellsOfL [vT b0.Def.Name])) (k0 ++ [b0.Def.Name])) (RdAll.append (s.ft 149 q) (s.ft 160 q))
   refine asg s q q fun a s => ?_
   apply wO
   refine p_inN ?_
   refine S s<|pw<|lw<|yw q (y_addN (i := o0) (j := 1) · q q (in64.2 (by omega)))<|mw q<|nw<|alw 149 161 q fun a s => ?_
   exact ⟨m3, Nat.lt_succ_self _, ⟨(k0 ++ [b0.Def.Name]), (o0 + 1), (S1), (i2), (r0 ++ (cellsOfL [vT b0.Def.Name])), hg, (s.sb q q q)⟩⟩
  replace hg := br_f hg g1
  apply wp_exit
  refine p_then ?_
  refine p_then ?_
  refine p_in ?_
  apply pN
  replace s := s.al 147 149 q
  replace s := s.pk [(1000, 1000), (700118, 700118), (700146, 700148)] (by decide)
  exact ⟨(k0), (A73), (P0), (r0), hg, (s.sb q q q)⟩
 clear s a; rintro a w ⟨j0, A69, b1, D0, hg, s⟩
 subst y2
 obtain ⟨C3, Z0, hg⟩ := zB hg
 apply wQ
 rcases Bool.eq_false_or_eq_true (C3) with l0 | l0
 ·replace hg := br_t hg l0
  refine S s<|lw<|mw q fun a s => ?_
  have hT := s
  replace hT := hT.fz (R := Rep.str) (kk := 700118) [1000, 700146] 163 q q (hT.ft 119 q) q
  refine lC s q func62 (c_module_twice n _ _ hT.lt _ _ _ (hT.ft 163 q) _ Z0) fun O4 a w hK hp s => ?_
  obtain rfl := hp.trans (congrArg Value.bool l0)
  refine S s<|mw q<|gw q<|gw q<|gw q<|gw q<|tw_ q<|mw q<|gw q<|gw q<|gw q<|gw q<|gw q<|gw q<|tw_ q<|mw q<|gw q<|gw q<|gw q<|gw q<|tw_ q<|aw q<|nw fun a s => ?_
  apply wp_ret
  obtain rfl := si hg
  exact fT f36 s q q q
 replace hg := br_n hg l0
 obtain ⟨v4, i1, hg⟩ := zB hg
 obtain ⟨z3, h1, hg⟩ := zB hg
 rcases Bool.eq_false_or_eq_true (z3) with s0 | s0
 ·replace hg := br_t hg s0
  refine S s<|lw<|mw q fun a s => ?_
  have hT := s
  replace hT := hT.fz (R := Rep.str) (kk := 700118) [1000, 700146] 165 q q (hT.ft 119 q) q
  refine lC s q func62 (c_module_twice n _ _ hT.lt _ _ _ (hT.ft 165 q) _ Z0) fun x4 a w hK hp s => ?_
  obtain rfl := hp.trans (congrArg Value.bool l0)
  refine S s<|mw q<|zw q (bF 3 · u38 q)<|zw q (lB 1000 · u33 q) fun a s => ?_
  refine gC s q func63 (c_module_names n _ _ s.lt _ _ _ (s.ft 103 q) _ i1) fun y4 a w hK hp s => ?_
  obtain ⟨F3, Y3, rfl, n3⟩ := hp
  replace s := s.ns 166 n3
  refine gC s q func62 (c_module_twice n _ _ s.lt _ _ _ (s.ft 166 q) _ h1) fun z4 a w hK hp s => ?_
  obtain rfl := hp.trans (congrArg Value.bool s0)
  refine S s<|fw q<|mw q<|gw q<|gw q<|gw q<|gw q<|gw q<|gw q<|tw_ q<|mw q<|gw q<|gw q<|gw q<|gw q<|tw_ q<|aw q<|nw fun a s => ?_
  apply wp_ret
  obtain rfl := si hg
  exact fT f36 s q q q
 replace hg := br_n hg s0
 obtain ⟨t0, w1, hg⟩ := zB hg
 obtain ⟨Y0, hg⟩ := zC hg
 obtain ⟨B3, x1, hg⟩ := zB hg
 rcases Bool.eq_false_or_eq_true (B3) with E0 | E0
 ·replace hg := br_t hg E0
  refine S s<|lw<|mw q fun a s => ?_
  have hT := s
  replace hT := hT.fz (R := Rep.str) (kk := 700118) [1000, 700146] 171 q q (hT.ft 119 q) q
  refine lC s q func62 (c_module_twice n _ _ hT.lt _ _ _ (hT.ft 171 q) _ Z0) fun B4 a w hK hp s => ?_
  obtain rfl := hp.trans (congrArg Value.bool l0)
  refine S s<|mw q<|zw q (bF 3 · u38 q)<|zw q (lB 1000 · u33 q) fun a s => ?_
  refine gC s q func63 (c_module_names n _ _ s.lt _ _ _ (s.ft 103 q) _ i1) fun C4 a w hK hp s => ?_
  obtain ⟨G3, Z3, rfl, p3⟩ := hp
  replace s := s.ns 172 p3
  refine gC s q func62 (c_module_twice n _ _ s.lt _ _ _ (s.ft 172 q) _ h1) fun D4 a w hK hp s => ?_
  obtain rfl := hp.trans (congrArg Value.bool s0)
  refine S s<|fw q<|mw q<|hw q<|zw q (bF 6 · u38 q)<|zw q (lB 1000 · u33 q) fun a s => ?_
  refine gC s q func63 (c_module_names n _ _ s.lt _ _ _ (s.ft 106 q) _ w1) fun E4 a w hK hp s => ?_
  obtain ⟨H3, a4, rfl, q3⟩ := hp
  replace s := s.ns 173 q3
  obtain ⟨F1, h3, E2⟩ := SlR.src (s.ft 173 q)
  replace s := s.add 174 (rdF Rep.str F1 (t0)) E2
  refine gl s q (l_append (sz := 1) (by_ := 16) (N := (j0 ++ t0).length) s 700146 q q q u25 q q q q q h3 (by rw [List.length_append]; try rfl) q (rmA Y0 q) (rmB Y0) q fun D3 T3 a w hA hK s => ?_)
  replace s := s.add 175 (rdF Rep.str (D0 ++ F1) (j0 ++ t0)) (RdAll.append (s.ft 147 q) (s.ft 174 q))
  have hT := s
  replace hT := hT.fz (R := Rep.str) (kk := 700146) [1000, 700118] 176 q q (hT.ft 175 q) q
  refine gC s q func62 (c_module_twice n _ _ hT.lt _ _ _ (hT.ft 176 q) _ x1) fun F4 a w hK hp s => ?_
  obtain rfl := hp.trans (congrArg Value.bool E0)
  refine S s<|fw q<|mw q<|gw q<|gw q<|gw q<|gw q<|tw_ q<|aw q<|nw fun a s => ?_
  apply wp_ret
  obtain rfl := si hg
  exact fT f36 s q q q
 replace hg := br_n hg E0
 obtain ⟨s4, c3, hg⟩ := zB hg
 obtain ⟨t4, d3, hg⟩ := zB hg
 refine S s<|lw<|mw q fun a s => ?_
 have hT := s
 replace hT := hT.fz (R := Rep.str) (kk := 700118) [1000, 700146] 178 q q (hT.ft 119 q) q
 refine lC s q func62 (c_module_twice n _ _ hT.lt _ _ _ (hT.ft 178 q) _ Z0) fun H4 a w hK hp s => ?_
 obtain rfl := hp.trans (congrArg Value.bool l0)
 refine S s<|mw q<|zw q (bF 3 · u38 q)<|zw q (lB 1000 · u33 q) fun a s => ?_
 refine gC s q func63 (c_module_names n _ _ s.lt _ _ _ (s.ft 103 q) _ i1) fun I4 a w hK hp s => ?_
 obtain ⟨I3, b4, rfl, s3⟩ := hp
 replace s := s.ns 179 s3
 refine gC s q func62 (c_module_twice n _ _ s.lt _ _ _ (s.ft 179 q) _ h1) fun J4 a w hK hp s => ?_
 obtain rfl := hp.trans (congrArg Value.bool s0)
 refine S s<|fw q<|mw q<|hw q<|zw q (bF 6 · u38 q)<|zw q (lB 1000 · u33 q) fun a s => ?_
 refine gC s q func63 (c_module_names n _ _ s.lt _ _ _ (s.ft 106 q) _ w1) fun K4 a w hK hp s => ?_
 obtain ⟨J3, c4, rfl, t3⟩ := hp
 replace s := s.ns 180 t3
 obtain ⟨G1, i3, F2⟩ := SlR.src (s.ft 180 q)
 replace s := s.add 181 (rdF Rep.str G1 (t0)) F2
 refine gl s q (l_append (sz := 1) (by_ := 16) (N := (j0 ++ t0).length) s 700146 q q q u25 q q q q q i3 (by rw [List.length_append]; try rfl) q (rmA Y0 q) (rmB Y0) q fun E3 U3 a w hA hK s => ?_)
 replace s := s.add 182 (rdF Rep.str (D0 ++ G1) (j0 ++ t0)) (RdAll.append (s.ft 147 q) (s.ft 181 q))
 have hT := s
 replace hT := hT.fz (R := Rep.str) (kk := 700146) [1000, 700118] 183 q q (hT.ft 182 q) q
 refine gC s q func62 (c_module_twice n _ _ hT.lt _ _ _ (hT.ft 183 q) _ x1) fun L4 a w hK hp s => ?_
 obtain rfl := hp.trans (congrArg Value.bool E0)
 refine S s<|fw q<|mw q<|zw q (bF 7 · u38 q)<|zw q (lB 1000 · u33 q) fun a s => ?_
 refine gC s q func63 (c_module_names n _ _ s.lt _ _ _ (s.ft 107 q) _ c3) fun M4 a w hK hp s => ?_
 obtain ⟨K3, d4, rfl, v3⟩ := hp
 replace s := s.ns 184 v3
 refine gV s q func62 (c_module_twice n _ _ s.lt _ _ _ (s.ft 184 q) _ d3) fun a w hK s => ?_
 refine S s<|fw q<|aw q<|nw fun a s => ?_
 apply wp_ret
 obtain rfl := si hg
 exact fT f36 s q q q
theorem c_slices_IndexFunc_string (n : Nat) (M : Bs) (w0 : World) (hM : bM M w0) (s_ : (List (List UInt8))) (d0 : OA) (e0 : Nat) (o0 : sR Rep.str M w0 d0 e0 s_) (f_ : ((List UInt8) → Option Bool)) (c0 : FuncId) (b0 : List Value) (p0 : FnR Tryz.prog c0 b0 pre69 post69 (f_) M w0) (r : Int) (hg : slices_IndexFunc_string n s_ f_ = some r) :
    CA Tryz.prog 64 [sl d0 s_ e0, .func (.func c0) #[] (List.toArray b0)] w0 (fun v w => v = .int .i64 (r)) := by
 unfold slices_IndexFunc_string at hg
 refine enter M noB func64 q q hM ?_
 intro a s
 replace s := s.es 101 o0
 replace s := s.add 102 (fnF Tryz.prog c0 b0 pre69 post69 (f_)) (by exact Fact.change _ enterM p0)
 refine S s<|vw<|aw q<|nw<|sw<|vw<|mw q<|yw q (lS · q u25)<|mw q<|nw<|bw fun a s => ?_
 refine c_loop (σ := Nat) (fun m1 a w => ∃ (a0 : Nat), slices_IndexFunc_string_L0 n s_ f_ m1 a0 = some r ∧ St (cx f64 M w0) [(0, sl d0 s_ e0), (1, .func (.func c0) #[] (List.toArray b0)), (7, vI ((((s_).length : Nat) : Int))), (8, vI (((a0 : Nat) : Int)))] [] [(101, sF Rep.str d0 e0 s_), (102, fnF Tryz.prog c0 b0 pre69 post69 (f_))] a w) (fun m1 => m1) n ⟨(0), hg, (s.sb q q q)⟩ ?_
 clear s a; rintro m1 a w ⟨a0, hg, s⟩
 rcases m1 with _ | m1
 ·rw [slices_IndexFunc_string_L0] at hg; cases hg
 rw [slices_IndexFunc_string_L0] at hg
 refine S s<|vw<|yw q (y_lssN (i := a0) (j := ((s_).length)) · q q)<|nw<|sw fun a s => c_dec s q (fun h0 => ?_) (fun h0 => ?_)
 ·replace hg := br_t hg h0
  have s0 := SlR.mx (s.ft 101 q)
  obtain ⟨x5, i0, hg⟩ := zB hg
  obtain ⟨r7, q0, hg⟩ := zB hg
  refine S s<|kw<|pw<|sw<|bw<|vw<|mw q<|aw q<|nw<|sw<|lw<|mw q<|mw q<|mw q fun a s => ?_
  obtain ⟨u0, l0, m0, n0, r0, k0, j0⟩ := SlR.elemX (s.ft 101 q) i0
  refine qq s q (eL 1 a0 s u25 l0 (lt_of_get i0) q) fun a s => ?_
  obtain ⟨rfl, t0⟩ := k0
  refine qq s q (lP s m0 n0 (j0 0 _ q) u9 q) fun a s => ?_
  refine l_seq q (l_callFn (cap := b0) (x := x5) s q (s.ft 102 q) q q ⟨q, (by omega)⟩ q0 fun v0 a w hK hp s => ?_)
  obtain rfl := hp
  apply wN
  refine c_cond s q (fun g0 => ?_) (fun g0 => ?_)
  ·replace hg := br_t hg g0
   refine S s<|vw<|mw q<|aw q<|nw fun a s => ?_
   apply wp_ret
   refine p_inR ?_
   refine p_thenR ?_
   refine p_thenR ?_
   refine p_inR ?_
   refine p_thenR ?_
   obtain rfl := si hg
   exact fT f64 s q q q
  replace hg := br_n hg g0
  apply wp_skip
  refine p_inN ?_
  refine S s<|pw<|lw<|yw q (y_addN (i := a0) (j := 1) · q q (in64.2 (by omega)))<|mw q<|nw fun a s => ?_
  exact ⟨m1, Nat.lt_succ_self _, ⟨(a0 + 1), hg, (s.sb q q q)⟩⟩
 replace hg := br_f hg h0
 apply wp_exit
 refine p_then ?_
 refine p_then ?_
 refine p_in ?_
 refine S s<|pw<|vw<|aw q<|nw fun a s => ?_
 apply wp_ret
 obtain rfl := si hg
 exact fT f64 s q q q
theorem c_slices_ContainsFunc_string (n : Nat) (M : Bs) (w0 : World) (hM : bM M w0) (s_ : (List (List UInt8))) (c0 : OA) (d0 : Nat) (e0 : sR Rep.str M w0 c0 d0 s_) (f_ : ((List UInt8) → Option Bool)) (a0 : FuncId) (b0 : List Value) (g0 : FnR Tryz.prog a0 b0 pre69 post69 (f_) M w0) (r : Bool) (hg : slices_ContainsFunc_string n s_ f_ = some r) :
    CA Tryz.prog 37 [sl c0 s_ d0, .func (.func a0) #[] (List.toArray b0)] w0 (fun v w => v = .bool (r)) := by
 unfold slices_ContainsFunc_string at hg
 refine enter M noB func37 q q hM ?_
 intro a s
 replace s := s.es 101 e0
 replace s := s.add 102 (fnF Tryz.prog a0 b0 pre69 post69 (f_)) (by exact Fact.change _ enterM g0)
 obtain ⟨r1, h0, hg⟩ := zB hg
 refine S s<|vw<|aw q<|nw<|sw<|lw<|mw q<|mw q fun a s => ?_
 refine lV s q func64 (c_slices_IndexFunc_string n _ _ s.lt _ _ _ (s.ft 101 q) _ _ _ (s.ft 102 q) _ h0) fun a w hK s => ?_
 refine S s<|yw q (y_geq · q q)<|aw q<|nw fun a s => ?_
 apply wp_ret
 obtain rfl := si hg
 exact fT f37 s q q q
theorem c_slices_Concat_Def (n : Nat) (M : Bs) (w0 : World) (hM : bM M w0) (slices_ : (List (List Def))) (a0 : OA) (b0 : Nat) (T0 : sR (Rep.list RDef) M w0 a0 b0 slices_) (r : (List Def)) (hg : slices_Concat_Def n slices_ = some r) :
    CA Tryz.prog 106 [sl a0 slices_ b0] w0 (fun v w => ∃ (Ao : OA), ∃ (co : Nat), ∃ (cso : List Value), v = sl Ao r co ∧ ((Ob.row Ao (r).length co 62 6 cso).holds w) ∧ (∀ b, (Ob.row Ao (r).length co 62 6 cso).ids b → w0.heap.size ≤ b) ∧ (RdAll RDef (fun b => M b ∨ (Ob.row Ao (r).length co 62 6 cso).ids b) w cso (r))) := by
 unfold slices_Concat_Def at hg
 refine enter M noB func106 q q hM ?_
 intro a s
 refine S s<|esw 101 T0<|vw<|aw q<|nw<|vw<|aw q<|nw<|sw<|vw<|mw q<|yw q (lS · q u158)<|mw q<|nw fun a s => ?_
 obtain ⟨k1, hg, I0⟩ := zJ hg
 refine c_post (fun a w => ∃ (k0 : Nat), k1 k0 = some r ∧ St (cx f106 M w0) [(0, sl a0 slices_ b0), (3, vI (((k0 : Nat) : Int)))] [] [(101, sF (Rep.list RDef) a0 b0 slices_)] a w) ?_ ?_
 ·apply wp_block
  refine c_loop (σ := Nat) (fun m1 a w => ∃ (d0 : Nat) (g0 : Nat), slices_Concat_Def_L0 n slices_ k1 m1 d0 g0 = some r ∧ St (cx f106 M w0) [(0, sl a0 slices_ b0), (3, vI (((d0 : Nat) : Int))), (9, sl a0 slices_ b0), (10, vI ((((slices_).length : Nat) : Int))), (11, vI (((g0 : Nat) : Int)))] [] [(101, sF (Rep.list RDef) a0 b0 slices_)] a w) (fun m1 => m1) n ⟨(0), (0), hg, (s.sb q q q)⟩ ?_
  clear s a; rintro m1 a w ⟨d0, g0, hg, s⟩
  rcases m1 with _ | m1
  ·rw [slices_Concat_Def_L0] at hg; cases hg
  rw [slices_Concat_Def_L0] at hg
  refine S s<|vw<|yw q (y_lssN (i := g0) (j := ((slices_).length)) · q q)<|nw<|sw fun a s => c_dec s q (fun o0 => ?_) (fun o0 => ?_)
  ·replace hg := br_t hg o0
   have g1 := SlR.mx (s.ft 101 q)
   obtain ⟨x8, v0, hg⟩ := zB hg
   refine S s<|kw<|pw<|sw<|bw<|sw<|lw fun a s => ?_
   obtain ⟨j1, G0, J0, L0, b1, E0, C0⟩ := SlR.elemX (s.ft 101 q) v0
   refine qq s q (eL 1 g0 s u158 G0 (lt_of_get v0) q) fun a s => ?_
   obtain ⟨X0, h1, Z0, rfl, s0⟩ := E0
   obtain rfl := s0.len
   obtain ⟨d1, hg⟩ := zC hg
   refine S s<|nsw 103 s0<|yw q (lP · J0 L0 (C0 0 _ q) u33 q)<|aw q<|nw<|sw<|lw<|mw q<|mw q<|yw q (lS · q u33)<|yw q (y_addN (i := d0) (j := ((x8).length)) · q q (in64.2 (by omega)))<|aw q<|nw<|vw<|mw q<|yw q (y_lssN (i := (d0 + (x8).length)) (j := 0) · q q)<|nw fun a s => c_dec s q (fun m0 => ?_) (fun m0 => ?_)
   ·replace hg := br_t hg m0
    cases hg
   replace hg := br_f hg m0
   apply wp_skip
   refine p_inN ?_
   refine S s<|pw<|lw<|yw q (y_addN (i := g0) (j := 1) · q q (in64.2 (by omega)))<|mw q<|nw fun a s => ?_
   exact ⟨m1, Nat.lt_succ_self _, ⟨(d0 + (x8).length), (g0 + 1), hg, (s.sb q q q)⟩⟩
  replace hg := br_f hg o0
  apply wp_exit
  refine p_then ?_
  refine p_then ?_
  refine p_in ?_
  apply pN
  exact ⟨(d0), hg, (s.sb q q q)⟩
 clear s a; rintro a w ⟨k0, hg, s⟩
 subst I0
 obtain ⟨i0, U0, hg⟩ := zB hg
 refine S s<|sw<|lw<|mw q fun a s => ?_
 refine l_seq q (l_callOwn (cap := []) (post := (fun v ob w' => ∃ Ao co cso, ob = Ob.row Ao (i0).length co 62 6 cso ∧ v = sl Ao i0 co ∧ RdAll RDef (fun b => mtb _ _ b ∨ ob.ids b) w' cso (i0))) s 1901 q q func125 q (by kernel_rfl) q q ((c_slices_Grow_Def n _ _ s.lt ((k0 : Nat) : Int) i0 U0).mono (fun e w' h => by obtain ⟨v, he, hk, Ao, co, cso, hv, P0, Q0, R0⟩ := h; exact ⟨v, he, hk, _, P0, Q0, ⟨Ao, co, cso, q, hv, R0⟩⟩)) fun n1 ob a w hK hp s => ?_)
 obtain ⟨y0, B0, q0, rfl, rfl, S0⟩ := hp
 replace s := s.add 105 (rdF RDef q0 (i0)) (RdAll.up2 s S0)
 refine S s<|aw q<|nw<|sw<|vw<|mw q<|yw q (lS · q u158)<|mw q<|nw<|bw<|alw 107 105 q fun a s => ?_
 replace s := s.pk [(700106, 1901)] (by decide)
 refine c_loop (σ := Nat) (fun m2 a w => ∃ (c0 : (List Def)) (e0 : Nat) (A20 : OA) (j0 : Nat) (h0 : List Value), slices_Concat_Def_L1 n slices_ m2 c0 e0 = some r ∧ St (cx f106 M w0) [(6, sl A20 c0 j0), (25, sl a0 slices_ b0), (26, vI ((((slices_).length : Nat) : Int))), (27, vI (((e0 : Nat) : Int)))] [(700106, Ob.row (A20) ((c0).length) (j0) 62 6 (h0))] [(101, sF (Rep.list RDef) a0 b0 slices_), (107, rdF RDef (h0) (c0))] a w) (fun m2 => m2) n ⟨(i0), (0), (y0), (B0), (q0), hg, (s.sb q q q)⟩ ?_
 clear s a; rintro m2 a w ⟨c0, e0, A20, j0, h0, hg, s⟩
 rcases m2 with _ | m2
 ·rw [slices_Concat_Def_L1] at hg; cases hg
 rw [slices_Concat_Def_L1] at hg
 refine S s<|vw<|yw q (y_lssN (i := e0) (j := ((slices_).length)) · q q)<|nw<|sw fun a s => c_dec s q (fun n0 => ?_) (fun n0 => ?_)
 ·replace hg := br_t hg n0
  have e1 := SlR.mx (s.ft 101 q)
  obtain ⟨l0, u0, hg⟩ := zB hg
  refine S s<|kw<|pw<|sw<|bw<|sw<|lw fun a s => ?_
  obtain ⟨l1, H0, K0, M0, c1, F0, D0⟩ := SlR.elemX (s.ft 101 q) u0
  refine qq s q (eL 1 e0 s u158 H0 (lt_of_get u0) q) fun a s => ?_
  obtain ⟨Y0, i1, a1, rfl, t0⟩ := F0
  obtain rfl := t0.len
  obtain ⟨r0, hg⟩ := zC hg
  refine S s<|nsw 109 t0<|yw q (lP · K0 M0 (D0 0 _ q) u33 q)<|aw q<|nw<|lw<|mw q<|mw q fun a s => ?_
  obtain ⟨p0, V0, O0⟩ := SlR.src (s.ft 109 q)
  replace s := s.add 112 (rdF RDef p0 (l0)) O0
  refine l_seq q (l_append (sz := 6) (by_ := 112) (N := (c0 ++ l0).length) s 700106 q q q u33 q q q q q V0 (by rw [List.length_append]; try rfl) q (rmA r0 q) (rmB r0) q fun x0 z0 a w hA hK s => ?_)
  replace s := s.add 113 (rdF RDef (h0 ++ p0) (c0 ++ l0)) (RdAll.append (s.ft 107 q) (s.ft 112 q))
  refine asg s q q fun a s => ?_
  apply wO
  refine p_inN ?_
  refine S s<|pw<|lw<|yw q (y_addN (i := e0) (j := 1) · q q (in64.2 (by omega)))<|mw q<|nw<|alw 107 113 q fun a s => ?_
  exact ⟨m2, Nat.lt_succ_self _, ⟨(c0 ++ l0), (e0 + 1), (x0), (z0), (h0 ++ p0), hg, (s.sb q q q)⟩⟩
 replace hg := br_f hg n0
 apply wp_exit
 refine p_then ?_
 refine p_then ?_
 refine p_in ?_
 refine S s<|pw<|vw<|mw q<|aw q<|nw fun a s => ?_
 apply wp_ret
 obtain rfl := si hg
 refine fin1 (fn := Tryz.f106) s q (r_tmp s q) ?_
 exact ⟨(A20), (j0), (h0), q, (s.wd.holds 700106 _ q), (row_new s (kk := 700106) q q), (RdAll.own s (kk := 700106) q (s.ft 107 q))⟩
theorem c_module_definitions (n : Nat) (M : Bs) (w0 : World) (hM : bM M w0) (m_ : Module) (s0 : OA) (H0 : Nat) (t0 : OA) (I0 : Nat) (i0 : OA) (m0 : Nat) (j0 : OA) (n0 : Nat) (e0 : OA) (g0 : Nat) (k0 : OA) (o0 : Nat) (l0 : OA) (p0 : Nat) (u0 : OA) (J0 : Nat) (r0 : OA) (G0 : Nat) (p2 : (m_.Name).length ≤ 9223372036854775807) (J1 : sR Rep.str M w0 s0 H0 m_.Imports) (K1 : sR RTypeDecl M w0 t0 I0 m_.Types) (L1 : sR RDef M w0 i0 m0 m_.Templates) (M1 : sR REntryDecl M w0 j0 n0 m_.Entries) (O1 : sR RLexDecl M w0 e0 g0 m_.LexRules) (P1 : sR RDef M w0 k0 o0 m_.Rules) (Q1 : sR RDef M w0 l0 p0 m_.Roots) (R1 : sR (Rep.list Rep.str) M w0 u0 J0 m_.Checks) (I1 : sR Rep.str M w0 r0 G0 m_.Drops) (r : (List Def)) (hg : module_definitions n m_ = some r) :
    CA Tryz.prog 65 [.agg #[vT m_.Name, sl s0 m_.Imports H0, sl t0 m_.Types I0, sl i0 m_.Templates m0, sl j0 m_.Entries n0, sl e0 m_.LexRules g0, sl k0 m_.Rules o0, sl l0 m_.Roots p0, sl u0 m_.Checks J0, sl r0 m_.Drops G0]] w0 (fun v w => ∃ (U0 : OA), ∃ (V0 : Nat), v = sl U0 r V0 ∧ (SlR RDef M w U0 (r).length V0 (r))) := by
 unfold module_definitions at hg
 refine enter M noB func65 q q hM ?_
 intro a s
 let F : Al Fact := [(101, sF Rep.str s0 H0 m_.Imports), (102, sF RTypeDecl t0 I0 m_.Types), (103, sF RDef i0 m0 m_.Templates), (104, sF REntryDecl j0 n0 m_.Entries), (105, sF RLexDecl e0 g0 m_.LexRules), (106, sF RDef k0 o0 m_.Rules), (107, sF RDef l0 p0 m_.Roots), (108, sF (Rep.list Rep.str) u0 J0 m_.Checks), (109, sF Rep.str r0 G0 m_.Drops)]
 let B : List Value := [vT m_.Name, sl s0 m_.Imports H0, sl t0 m_.Types I0, sl i0 m_.Templates m0, sl j0 m_.Entries n0, sl e0 m_.LexRules g0, sl k0 m_.Rules o0, sl l0 m_.Roots p0, sl u0 m_.Checks J0, sl r0 m_.Drops G0]
 refine S s<|esw 101 J1<|esw 102 K1<|esw 103 L1<|esw 104 M1<|esw 105 O1<|esw 106 P1<|esw 107 Q1<|esw 108 R1<|esw 109 I1<|vw fun a s => ?_
 refine l_seq q (l_box (zs := B) s 1000 q q q q fun b2 a w hb hK s => ?_)
 obtain ⟨r4, c2, hg⟩ := zB hg
 refine S s<|aw q<|nw<|sw<|lw<|yw q (bF 3 · u38 q)<|yw q (lB 1000 · u33 q)<|yw q (bF 6 · u38 q)<|yw q (lB 1000 · u33 q)<|yw q (bF 7 · u38 q)<|yw q (lB 1000 · u33 q) fun a s => ?_
 refine l_seq q (l_buildDense (sz := 1) s 1106 q q q u158 q q q q q q q fun b7 a w r1 hK s => ?_)
 clear r1
 replace s := s.add 113 (rdF (Rep.list RDef) (cellsOfL [sl i0 m_.Templates m0, sl k0 m_.Rules o0, sl l0 m_.Roots p0]) ([m_.Templates, m_.Rules, m_.Roots])) (RdAll.cons (by exact ⟨_, _, _, q, (s.ft 103 q)⟩) (RdAll.cons (by exact ⟨_, _, _, q, (s.ft 106 q)⟩) (RdAll.cons (by exact ⟨_, _, _, q, (s.ft 107 q)⟩) (rN))))
 replace s := s.freeze (R := (Rep.list RDef)) (kk := 1106) (L' := [(1000, Ob.box b2 B 38)]) 114 q q (s.ft 113 q) ⟨q, trivial⟩ q
 refine l_seq q (l_callOwn (cap := []) (post := (fun v ob w' => ∃ Ao co cso, ob = Ob.row Ao (r4).length co 62 6 cso ∧ v = sl Ao r4 co ∧ RdAll RDef (fun b => mtb _ _ b ∨ ob.ids b) w' cso (r4))) s 1107 q q func106 q (by kernel_rfl) q q ((c_slices_Concat_Def n _ _ s.lt [m_.Templates, m_.Rules, m_.Roots] (some ⟨b7, 0, none⟩) (3) (s.ft 114 q) _ c2).mono (fun e w' h => by obtain ⟨v, he, hk, Ao, co, cso, hv, E1, F1, G1⟩ := h; exact ⟨v, he, hk, _, E1, F1, ⟨Ao, co, cso, q, hv, G1⟩⟩)) fun v9 ob a w hK hp s => ?_)
 obtain ⟨i1, o1, X0, rfl, rfl, H1⟩ := hp
 replace s := s.add 115 (rdF RDef X0 (r4)) (RdAll.up2 s H1)
 refine S s<|aw q<|nw<|sw<|vw<|yw q (bF 4 · u38 q)<|yw q (lB 1000 · u34 q)<|yw q (lS · q u34)<|mw q<|nw fun a s => ?_
 obtain ⟨c1, hg, y1⟩ := zJ hg
 refine c_post (fun a w => ∃ (out_11 : (List Def)) (A12 : OA) (D0 : Nat) (R0 : List Value), c1 out_11 = some r ∧ St (cx f65 M w0) [(1, vP b2 0), (3, sl A12 out_11 D0)] [(1000, Ob.box b2 B 38), (700116, Ob.row (A12) ((out_11).length) (D0) 62 6 (R0))] (F ++ [(117, rdF RDef (R0) (out_11))]) a w) ?_ ?_
 ·apply wp_block
  replace s := s.al 119 115 q
  replace s := s.pk [(1000, 1000), (700118, 1107)] (by decide)
  refine c_loop (σ := Nat) (fun m1 a w => ∃ (out_15 : (List Def)) (c0 : Nat) (A16 : OA) (E0 : Nat) (h0 : List Value), module_definitions_L0 n m_ c1 m1 out_15 c0 = some r ∧ St (cx f65 M w0) [(1, vP b2 0), (3, sl A16 out_15 E0), (17, sl j0 m_.Entries n0), (18, vI ((((m_.Entries).length : Nat) : Int))), (19, vI (((c0 : Nat) : Int)))] [(1000, Ob.box b2 B 38), (700118, Ob.row (A16) ((out_15).length) (E0) 62 6 (h0))] (F ++ [(119, rdF RDef (h0) (out_15))]) a w) (fun m1 => m1) n ⟨(r4), (0), (i1), (o1), (X0), hg, (s.sb q q q)⟩ ?_
  clear s a; rintro m1 a w ⟨out_15, c0, A16, E0, h0, hg, s⟩
  rcases m1 with _ | m1
  ·rw [module_definitions_L0] at hg; cases hg
  rw [module_definitions_L0] at hg
  refine S s<|vw<|yw q (y_lssN (i := c0) (j := ((m_.Entries).length)) · q q)<|nw<|sw fun a s => c_dec s q (fun S0 => ?_) (fun S0 => ?_)
  ·replace hg := br_t hg S0
   have n2 := SlR.mx (s.ft 104 q)
   obtain ⟨b0, a1, hg⟩ := zB hg
   refine S s<|kw<|pw<|sw<|bw<|sw<|lw fun a s => ?_
   obtain ⟨u2, w1, z1, C1, k2, u1, s1⟩ := SlR.elemX (s.ft 104 q) a1
   refine qq s q (eL 7 c0 s u34 w1 (lt_of_get a1) q) fun a s => ?_
   obtain ⟨d1, j1, v0, K0, x0, L0, y0, M0, rfl, S1, q2, r2, T1, U1, V1⟩ := REntryDecl.open u1
   refine S s<|nsw 124 S1<|nsw 125 T1<|nsw 126 U1<|nsw 127 V1<|yw q (y_ldp · q z1 C1 (by simpa using s1) u89 q q) fun a s => ?_
   refine l_seq q (l_alloc (zs := [nS, vT ([]), vI 0, vT ([]), nS, nS, nS]) s 1402 q q q q fun g2 a w hb hK s => ?_)
   refine l_seq q (l_store (n := 7) (cs' := [sl d1 b0.Words j1, vT b0.Def.Name, vI b0.Def.Strict.Op, vT b0.Def.Strict.Name, sl v0 b0.Def.Strict.Path K0, sl x0 b0.Def.Strict.Kids L0, sl y0 b0.Def.Defaults M0]) s 1402 q q q q q q q q ?_); clear s; intro w hK s; clear hK
   obtain ⟨Y0, hg⟩ := zC hg
   refine S s<|nw<|lw<|mw q<|yw q (bF 1 · u89 q)<|yw q (y_loadBox (kk := 1402) (n := 6) (vs := [vT b0.Def.Name, vI b0.Def.Strict.Op, vT b0.Def.Strict.Name, sl v0 b0.Def.Strict.Path K0, sl x0 b0.Def.Strict.Kids L0, sl y0 b0.Def.Defaults M0]) · q q u62 q q q q) fun a s => ?_
   refine l_seq q (l_buildDense (sz := 6) s 1503 q q q u33 q q q q q q q fun h2 a w p1 hK s => ?_)
   clear p1
   replace s := s.add 130 (rdF RDef (cellsOfL [.agg #[_, _, _, _, _, _]]) ([b0.Def])) (RdAll.cons (by exact (RDef.mk' (x := b0.Def) (by omega) (by omega) (s.ft 125 q) (s.ft 126 q) (s.ft 127 q))) (rN))
   have d2 := row_src (s.wd.holds 1503 _ q) (RdAll.one (s.ft 130 q))
   refine l_seq q (l_append (sz := 6) (by_ := 112) (N := (out_15 ++ [b0.Def]).length) s 700118 q q q u33 q q q q q d2 (by rw [List.length_append]; try rfl) q (rmA Y0 q) (rmB Y0) q fun e1 k1 a w hA hK s => ?_)
   replace s := s.add 131 (rdF RDef (h0 ++ (cellsOfL [.agg #[vT b0.Def.Name, vI b0.Def.Strict.Op, vT b0.Def.Strict.Name, sl v0 b0.Def.Strict.Path K0, sl x0 b0.Def.Strict.Kids L0, sl y0 b0.Def.Defaults M0]])) (out_15 ++ [b0.Def])) (RdAll.append (s.ft 119 q) (s.ft 130 q))
   refine asg s q q fun a s => ?_
   apply wO
   refine p_inN ?_
   refine S s<|pw<|lw<|yw q (y_addN (i := c0) (j := 1) · q q (in64.2 (by omega)))<|mw q<|nw<|alw 119 131 q fun a s => ?_
   exact ⟨m1, Nat.lt_succ_self _, ⟨(out_15 ++ [b0.Def]), (c0 + 1), (e1), (k1), (h0 ++ (cellsOfL [.agg #[vT b0.Def.Name, vI b0.Def.Strict.Op, vT b0.Def.Strict.Name, sl v0 b0.Def.Strict.Path K0, sl x0 b0.Def.Strict.Kids L0, sl y0 b0.Def.Defaults M0]])), hg, (s.sb q q q)⟩⟩
  replace hg := br_f hg S0
  apply wp_exit
  refine p_then ?_
  refine p_then ?_
  refine p_in ?_
  apply pN
  replace s := s.al 117 119 q
  replace s := s.pk [(1000, 1000), (700116, 700118)] (by decide)
  exact ⟨(out_15), (A16), (E0), (h0), hg, (s.sb q q q)⟩
 clear s a; rintro a w ⟨out_11, A12, D0, R0, hg, s⟩
 subst y1
 refine S s<|sw<|vw<|yw q (bF 5 · u38 q)<|yw q (lB 1000 · u35 q)<|yw q (lS · q u35)<|mw q<|nw<|bw<|alw 133 117 q fun a s => ?_
 replace s := s.pk [(1000, 1000), (700132, 700116)] (by decide)
 refine c_loop (σ := Nat) (fun m2 a w => ∃ (out_36 : (List Def)) (d0 : Nat) (A37 : OA) (F0 : Nat) (q0 : List Value), module_definitions_L1 n m_ m2 out_36 d0 = some r ∧ St (cx f65 M w0) [(3, sl A37 out_36 F0), (30, sl e0 m_.LexRules g0), (31, vI ((((m_.LexRules).length : Nat) : Int))), (32, vI (((d0 : Nat) : Int)))] [(700132, Ob.row (A37) ((out_36).length) (F0) 62 6 (q0))] [(105, sF RLexDecl e0 g0 m_.LexRules), (133, rdF RDef (q0) (out_36))] a w) (fun m2 => m2) n ⟨(out_11), (0), (A12), (D0), (R0), hg, (s.sb q q q)⟩ ?_
 clear s a; rintro m2 a w ⟨out_36, d0, A37, F0, q0, hg, s⟩
 rcases m2 with _ | m2
 ·rw [module_definitions_L1] at hg; cases hg
 rw [module_definitions_L1] at hg
 refine S s<|vw<|yw q (y_lssN (i := d0) (j := ((m_.LexRules).length)) · q q)<|nw<|sw fun a s => c_dec s q (fun T0 => ?_) (fun T0 => ?_)
 ·replace hg := br_t hg T0
  have o2 := SlR.mx (s.ft 105 q)
  obtain ⟨a0, b1, hg⟩ := zB hg
  refine S s<|kw<|pw<|sw<|bw<|sw<|lw fun a s => ?_
  obtain ⟨v2, x1, B1, D1, l2, v1, t1⟩ := SlR.elemX (s.ft 105 q) b1
  refine qq s q (eL 8 d0 s u35 x1 (lt_of_get b1) q) fun a s => ?_
  obtain ⟨g1, l1, z0, O0, B0, P0, C0, Q0, rfl, X1, s2, t2, Y1, Z1, a2⟩ := RLexDecl.open v1
  refine S s<|nsw 138 X1<|nsw 139 Y1<|nsw 140 Z1<|nsw 141 a2<|yw q (y_ldp · q B1 D1 (by simpa using t1) u94 q q) fun a s => ?_
  refine l_seq q (l_alloc (zs := [vI 0, nS, vT ([]), vI 0, vT ([]), nS, nS, nS]) s 1902 q q q q fun i2 a w hb hK s => ?_)
  refine l_seq q (l_store (n := 8) (cs' := [vI a0.Affix.Kind, sl g1 a0.Affix.Pairs l1, vT a0.Def.Name, vI a0.Def.Strict.Op, vT a0.Def.Strict.Name, sl z0 a0.Def.Strict.Path O0, sl B0 a0.Def.Strict.Kids P0, sl C0 a0.Def.Defaults Q0]) s 1902 q q q q q q q q ?_); clear s; intro w hK s; clear hK
  obtain ⟨Z0, hg⟩ := zC hg
  refine S s<|nw<|lw<|mw q<|yw q (bF 2 · u94 q)<|yw q (y_loadBox (kk := 1902) (n := 6) (vs := [vT a0.Def.Name, vI a0.Def.Strict.Op, vT a0.Def.Strict.Name, sl z0 a0.Def.Strict.Path O0, sl B0 a0.Def.Strict.Kids P0, sl C0 a0.Def.Defaults Q0]) · q q u62 q q q q) fun a s => ?_
  refine l_seq q (l_buildDense (sz := 6) s 2003 q q q u33 q q q q q q q fun j2 a w q1 hK s => ?_)
  clear q1
  replace s := s.add 144 (rdF RDef (cellsOfL [.agg #[_, _, _, _, _, _]]) ([a0.Def])) (RdAll.cons (by exact (RDef.mk' (x := a0.Def) (by omega) (by omega) (s.ft 139 q) (s.ft 140 q) (s.ft 141 q))) (rN))
  have e2 := row_src (s.wd.holds 2003 _ q) (RdAll.one (s.ft 144 q))
  refine l_seq q (l_append (sz := 6) (by_ := 112) (N := (out_36 ++ [a0.Def]).length) s 700132 q q q u33 q q q q q e2 (by rw [List.length_append]; try rfl) q (rmA Z0 q) (rmB Z0) q fun h1 n1 a w hA hK s => ?_)
  replace s := s.add 145 (rdF RDef (q0 ++ (cellsOfL [.agg #[vT a0.Def.Name, vI a0.Def.Strict.Op, vT a0.Def.Strict.Name, sl z0 a0.Def.Strict.Path O0, sl B0 a0.Def.Strict.Kids P0, sl C0 a0.Def.Defaults Q0]])) (out_36 ++ [a0.Def])) (RdAll.append (s.ft 133 q) (s.ft 144 q))
  refine asg s q q fun a s => ?_
  apply wO
  refine p_inN ?_
  refine S s<|pw<|lw<|yw q (y_addN (i := d0) (j := 1) · q q (in64.2 (by omega)))<|mw q<|nw<|alw 133 145 q fun a s => ?_
  exact ⟨m2, Nat.lt_succ_self _, ⟨(out_36 ++ [a0.Def]), (d0 + 1), (h1), (n1), (q0 ++ (cellsOfL [.agg #[vT a0.Def.Name, vI a0.Def.Strict.Op, vT a0.Def.Strict.Name, sl z0 a0.Def.Strict.Path O0, sl B0 a0.Def.Strict.Kids P0, sl C0 a0.Def.Defaults Q0]])), hg, (s.sb q q q)⟩⟩
 replace hg := br_f hg T0
 apply wp_exit
 refine p_then ?_
 refine p_then ?_
 refine p_in ?_
 refine S s<|pw<|vw<|mw q<|aw q<|nw fun a s => ?_
 apply wp_ret
 obtain rfl := si hg
 refine fin1 (fn := Tryz.f65) s q (r_tmp s q) ?_
 exact ⟨(A37), (F0), q, (s.rowOut (R := RDef) (kk := 700132) q q (s.ft 133 q))⟩
theorem c_desc_Names_1 (n : Nat) : ∀ (M : Bs) (w0 : World) (hM : bM M w0) (C : Bs) (d_ : Desc) (r0 : OA) (u0 : Nat) (h0 : OA) (k0 : Nat) (w1 : (d_.Name).length ≤ 9223372036854775807) (a0 : Nat) (d0 : (List (List UInt8))) (y0 : OA) (B0 : Nat) (n0 : List Value) (b0 : Nat) (e0 : (List (List UInt8))) (z0 : OA) (C0 : Nat) (o0 : List Value) (c0 : Nat) (hW : Wd ⟨0, M, C, w0⟩ [(9100000, Ob.box a0 [.slice (y0) ((d0).length) (B0)] 25), (9100100, Ob.box b0 [.slice (z0) ((e0).length) (C0)] 25), (9200000, Ob.row (y0) ((d0).length) (B0) 9 1 (n0)), (9200100, Ob.row (z0) ((e0).length) (C0) 9 1 (o0))] [(9300000, rdF Rep.str (n0) (d0)), (9300100, rdF Rep.str (o0) (e0)), (9400000, slF Rep.str (r0) ((d_.Path).length) (u0) (d_.Path)), (9400001, slF RDesc (h0) ((d_.Kids).length) (k0) (d_.Kids)), (9400002, boxF c0 [.func (.func 107) #[] #[.pointer (some ⟨a0, 0, none⟩), .pointer (some ⟨b0, 0, none⟩), .pointer (some ⟨c0, 0, none⟩)]] 139)] w0) (r : ((List (List UInt8)) × (List (List UInt8)))) (hg : desc_Names_1 n d_ d0 e0 = some r),
    Calls Tryz.prog 107 [.agg #[.int .i64 (d_.Op), vT d_.Name, sl r0 d_.Path u0, sl h0 d_.Kids k0], .pointer (some ⟨a0, 0, none⟩), .pointer (some ⟨b0, 0, none⟩), .pointer (some ⟨c0, 0, none⟩)].toArray w0 (Ret C w0 fun v w => ∃ (S0 : OA), ∃ (X0 : Nat), ∃ (csm0_0 : List Value), ∃ (T0 : OA), ∃ (Y0 : Nat), ∃ (csm1_0 : List Value), v = .tuple #[] ∧ (Wd ⟨0, M, C, w0⟩ [(9100000, Ob.box a0 [sl S0 r.1 X0] 25), (9100100, Ob.box b0 [sl T0 r.2 Y0] 25), (9200000, Ob.row (S0) ((r.1).length) (X0) 9 1 (csm0_0)), (9200100, Ob.row (T0) ((r.2).length) (Y0) 9 1 (csm1_0))] [(9300000, rdF Rep.str (csm0_0) (r.1)), (9300100, rdF Rep.str (csm1_0) (r.2))] w)) := by
 induction n with
 | zero => intros; rename_i hg; rw [desc_Names_1] at hg; cases hg
 | succ n c_self =>
 intro M w0 hM C d_ r0 u0 h0 k0 w1 a0 d0 y0 B0 n0 b0 e0 z0 C0 o0 c0 hW r hg
 rw [desc_Names_1] at hg
 refine enterL M C func107 q q hW ?_
 intro a s
 refine S s<|alw 104 9400000 q<|alw 105 9400001 q<|alw 106 9400002 q<|vw fun a s => ?_
 refine l_seq q (l_box (zs := [vI d_.Op, vT d_.Name, sl r0 d_.Path u0, sl h0 d_.Kids k0]) s 1000 q q q q fun b2 a w hb hK s => ?_)
 refine S s<|nw<|sw<|vw<|yw q (bF 0 · u60 q)<|yw q (lB 1000 · u3 q)<|nw fun a s => ?_
 obtain ⟨k3, hg, o1⟩ := zJ hg
 refine c_post (fun a w => ∃ (s0 : (List (List UInt8))) (t0 : (List (List UInt8))) (A5 : OA) (c6 : Nat) (F0 : List Value) (A9 : OA) (D0 : Nat) (E0 : List Value), k3 s0 t0 = some r ∧ St (⟨Tryz.f107.ntmps, M, C, w0⟩ : Ctx) [(1, vP a0 0), (2, vP b0 0), (3, vP c0 0), (4, vP b2 0)] [(1000, Ob.box b2 [vI d_.Op, vT d_.Name, sl r0 d_.Path u0, sl h0 d_.Kids k0] 60), (700107, Ob.row (A5) ((s0).length) (c6) 9 1 (F0)), (700109, Ob.row (A9) ((t0).length) (D0) 9 1 (E0)), (9100000, Ob.box a0 [sl A5 s0 c6] 25), (9100100, Ob.box b0 [sl A9 t0 D0] 25)] [(104, sF Rep.str r0 u0 d_.Path), (105, sF RDesc h0 k0 d_.Kids), (106, boxF c0 [.func (.func 107) #[] #[vP a0 0, vP b0 0, vP c0 0]] 139), (108, rdF Rep.str (F0) (s0)), (110, rdF Rep.str (E0) (t0))] a w) ?_ ?_
 ·refine S s<|bw<|vw<|yw q (y_eql · q q)<|aw q<|nw fun a s => c_dec s q (fun P0 => ?_) (fun P0 => ?_)
  ·replace hg := br_t hg P0
   obtain ⟨c1, hg⟩ := zC hg
   refine S s<|lw<|yw q (lB 9100000 · u25 q)<|yw q (bF 1 · u60 q)<|yw q (lB 1000 · u9 q) fun a s => ?_
   refine l_seq q (l_buildDense (sz := 1) s 1303 q q q u25 q q q q q q q fun x1 a w i1 hK s => ?_)
   clear i1
   replace s := s.add 113 (rdF Rep.str (cellsOfL [vT d_.Name]) ([d_.Name])) (RdAll.cons (by exact ⟨q, (by omega)⟩) (rN))
   have u1 := row_src (s.wd.holds 1303 _ q) (RdAll.one (s.ft 113 q))
   refine l_seq q (l_append (sz := 1) (by_ := 16) (N := (d0 ++ [d_.Name]).length) s 9200000 q q q u25 q q q q q u1 (by rw [List.length_append]; try rfl) q (rmA c1 q) (rmB c1) q fun U0 Z0 a w hA hK s => ?_)
   replace s := s.add 114 (rdF Rep.str (n0 ++ (cellsOfL [vT d_.Name])) (d0 ++ [d_.Name])) (RdAll.append (s.ft 9300000 q) (s.ft 113 q))
   refine l_seq q (l_store (n := 1) (cs' := [sl U0 (d0 ++ [d_.Name]) Z0]) s 9100000 q q q q q q q q ?_); clear s; intro w hK s; clear hK
   apply wO
   refine p_inN ?_
   refine S s<|pw<|alw 108 114 q<|alw 110 9300100 q fun a s => ?_
   replace s := s.pk [(1000, 1000), (1303, 1303), (700107, 9200000), (700109, 9200100), (9100000, 9100000), (9100100, 9100100)] (by decide)
   exact ⟨(d0 ++ [d_.Name]), (e0), (U0), (Z0), (n0 ++ (cellsOfL [vT d_.Name])), (z0), (C0), (o0), hg, (s.sb q q q)⟩
  replace hg := br_f hg P0
  refine S s<|vw<|yw q (y_eql · q q)<|aw q<|nw fun a s => c_dec s q (fun Q0 => ?_) (fun Q0 => ?_)
  ·replace hg := br_t hg Q0
   obtain ⟨d1, hg⟩ := zC hg
   refine S s<|lw<|yw q (lB 9100100 · u25 q)<|yw q (bF 1 · u60 q)<|yw q (lB 1000 · u9 q) fun a s => ?_
   refine l_seq q (l_buildDense (sz := 1) s 1503 q q q u25 q q q q q q q fun y1 a w j1 hK s => ?_)
   clear j1
   replace s := s.add 117 (rdF Rep.str (cellsOfL [vT d_.Name]) ([d_.Name])) (RdAll.cons (by exact ⟨q, (by omega)⟩) (rN))
   have v1 := row_src (s.wd.holds 1503 _ q) (RdAll.one (s.ft 117 q))
   refine l_seq q (l_append (sz := 1) (by_ := 16) (N := (e0 ++ [d_.Name]).length) s 9200100 q q q u25 q q q q q v1 (by rw [List.length_append]; try rfl) q (rmA d1 q) (rmB d1) q fun V0 a1 a w hA hK s => ?_)
   replace s := s.add 118 (rdF Rep.str (o0 ++ (cellsOfL [vT d_.Name])) (e0 ++ [d_.Name])) (RdAll.append (s.ft 9300100 q) (s.ft 117 q))
   refine l_seq q (l_store (n := 1) (cs' := [sl V0 (e0 ++ [d_.Name]) a1]) s 9100100 q q q q q q q q ?_); clear s; intro w hK s; clear hK
   apply wO
   refine p_inN ?_
   refine S s<|pw<|alw 108 9300000 q<|alw 110 118 q fun a s => ?_
   replace s := s.pk [(1000, 1000), (1503, 1503), (700107, 9200000), (700109, 9200100), (9100000, 9100000), (9100100, 9100100)] (by decide)
   exact ⟨(d0), (e0 ++ [d_.Name]), (y0), (B0), (n0), (V0), (a1), (o0 ++ (cellsOfL [vT d_.Name])), hg, (s.sb q q q)⟩
  replace hg := br_f hg Q0
  apply wp_skip
  refine p_inN ?_
  refine S s<|pw<|alw 108 9300000 q<|alw 110 9300100 q fun a s => ?_
  replace s := s.pk [(1000, 1000), (700107, 9200000), (700109, 9200100), (9100000, 9100000), (9100100, 9100100)] (by decide)
  exact ⟨(d0), (e0), (y0), (B0), (n0), (z0), (C0), (o0), hg, (s.sb q q q)⟩
 clear s a; rintro a w ⟨s0, t0, A5, c6, F0, A9, D0, E0, hg, s⟩
 subst o1
 refine S s<|vw<|yw q (bF 3 · u60 q)<|yw q (lB 1000 · u58 q)<|yw q (lS · q u58)<|mw q<|nw<|bw<|alw 120 108 q<|alw 122 110 q fun a s => ?_
 replace s := s.pk [(1000, 1000), (700119, 700107), (700121, 700109), (9100000, 9100000), (9100100, 9100100)] (by decide)
 refine c_loop (σ := Nat) (fun m1 a w => ∃ (q0 : Nat) (i0 : (List (List UInt8))) (j0 : (List (List UInt8))) (A30 : OA) (l0 : Nat) (v0 : List Value) (A34 : OA) (m0 : Nat) (x0 : List Value), desc_Names_1_L0 n d_ (desc_Names_1 n) m1 q0 i0 j0 = some r ∧ St (⟨Tryz.f107.ntmps, M, C, w0⟩ : Ctx) [(1, vP a0 0), (2, vP b0 0), (3, vP c0 0), (24, sl h0 d_.Kids k0), (25, vI ((((d_.Kids).length : Nat) : Int))), (26, vI (((q0 : Nat) : Int)))] [(700119, Ob.row (A30) ((i0).length) (l0) 9 1 (v0)), (700121, Ob.row (A34) ((j0).length) (m0) 9 1 (x0)), (9100000, Ob.box a0 [sl A30 i0 l0] 25), (9100100, Ob.box b0 [sl A34 j0 m0] 25)] [(105, sF RDesc h0 k0 d_.Kids), (106, boxF c0 [.func (.func 107) #[] #[vP a0 0, vP b0 0, vP c0 0]] 139), (120, rdF Rep.str (v0) (i0)), (122, rdF Rep.str (x0) (j0))] a w) (fun m1 => m1) n ⟨(0), (s0), (t0), (A5), (c6), (F0), (A9), (D0), (E0), hg, (s.sb q q q)⟩ ?_
 clear s a; rintro m1 a w ⟨q0, i0, j0, A30, l0, v0, A34, m0, x0, hg, s⟩
 rcases m1 with _ | m1
 ·rw [desc_Names_1_L0] at hg; cases hg
 rw [desc_Names_1_L0] at hg
 refine S s<|vw<|yw q (y_lssN (i := q0) (j := ((d_.Kids).length)) · q q)<|nw<|sw fun a s => c_dec s q (fun R0 => ?_) (fun R0 => ?_)
 ·replace hg := br_t hg R0
  have B1 := SlR.mx (s.ft 105 q)
  obtain ⟨g0, e1, hg⟩ := zB hg
  refine S s<|kw<|pw<|sw<|bw<|sw<|lw fun a s => ?_
  obtain ⟨D1, n1, p1, q1, z1, l1, k1⟩ := SlR.elemX (s.ft 105 q) e1
  refine qq s q (eL 4 q0 s u58 n1 (lt_of_get e1) q) fun a s => ?_
  obtain ⟨I0, M0, J0, O0, rfl, C1, r1, s1⟩ := RDesc.open l1
  refine S s<|nsw 125 r1<|nsw 126 s1<|yw q (y_ldp · q p1 q1 (by simpa using k1) u60 q q) fun a s => ?_
  refine l_seq q (l_alloc (zs := [vI 0, vT ([]), nS, nS]) s 1802 q q q q fun g1 a w hb hK s => ?_)
  refine l_seq q (l_store (n := 4) (cs' := [vI g0.Op, vT g0.Name, sl I0 g0.Path M0, sl J0 g0.Kids O0]) s 1802 q q q q q q q q ?_); clear s; intro w hK s; clear hK
  obtain ⟨p0, t1, hg⟩ := zB hg
  refine S s<|nw<|lw<|yw q (fun s => y_loadF1 s q (s.ft 106 q) q u139 q)<|yw q (y_loadAll (kk := 1802) · q q u60 q q) fun a s => ?_
  have hT := s.pk [(1802, 1802), (9100000, 9100000), (9100100, 9100100), (9200000, 700119), (9200100, 700121)] (by decide)
  replace hT := hT.al 9300000 120 q
  replace hT := hT.al 9300100 122 q
  replace hT := hT.al 9400000 125 q
  replace hT := hT.al 9400001 126 q
  replace hT := hT.al 9400002 106 q
  refine l_seq q (l_callMut (cap := [vP a0 0, vP b0 0, vP c0 0]) hT _ [] (sbA (by rfl)) trivial (by rfl) q func107 q (by kernel_rfl) q q (c_self _ _ (hT.restLt [1802]) _ g0 (I0) (M0) (J0) (O0) (by omega) a0 i0 (A30) (l0) (v0) b0 j0 (A34) (m0) (x0) c0 (hT.wd.lendL _ _ _ (sbA (by rfl)) (keep_sub [1802]) (by rfl) (sbA (by rfl))) p0 t1) ?_); intro E1 a' w' hK hp hF
  obtain ⟨G0, K0, csm0_0u50, H0, L0, csm1_0u50, rfl, b1⟩ := hp
  have h1 := St.mk hF (hT.wd.back (sbA (by rfl)) (keep_sub [1802]) (by rfl) b1 (by rfl))
  clear s hT hF b1 hK; revert h1; revert w'; revert a'; intro a w s
  replace s := s.al 129 9300000 rfl |>.al 130 9300100 q
  replace s := s.ren [(1802, Ob.box g1 [vI g0.Op, vT g0.Name, sl I0 g0.Path M0, sl J0 g0.Kids O0] 60), (700119, Ob.row (G0) ((p0.1).length) (K0) 9 1 (csm0_0u50)), (700121, Ob.row (H0) ((p0.2).length) (L0) 9 1 (csm1_0u50)), (9100000, Ob.box a0 [sl G0 p0.1 K0] 25), (9100100, Ob.box b0 [sl H0 p0.2 L0] 25)] [1802, 9200000, 9200100, 9100000, 9100100] ⟨q, q, q, q, q, trivial⟩ (by decide)
  apply wO
  refine p_inN ?_
  refine S s<|pw<|lw<|yw q (y_addN (i := q0) (j := 1) · q q (in64.2 (by omega)))<|mw q<|nw<|alw 120 129 q<|alw 122 130 q fun a s => ?_
  exact ⟨m1, Nat.lt_succ_self _, ⟨(q0 + 1), (p0.1), (p0.2), (G0), (K0), (csm0_0u50), (H0), (L0), (csm1_0u50), hg, (s.sb q q q)⟩⟩
 replace hg := br_f hg R0
 apply wp_exit
 refine p_then ?_
 refine p_then ?_
 refine p_in ?_
 replace s := s.al 9300000 120 rfl |>.al 9300100 122 q
 obtain rfl := si hg
 refine fin0 (fn := Tryz.f107) s q ?_ (.inr q)
 exact ⟨(A30), (l0), (v0), (A34), (m0), (x0), q, ((s.ren [(9100000, Ob.box a0 [sl A30 i0 l0] 25), (9100100, Ob.box b0 [sl A34 j0 m0] 25), (9200000, Ob.row (A30) ((i0).length) (l0) 9 1 (v0)), (9200100, Ob.row (A34) ((j0).length) (m0) 9 1 (x0))] [9100000, 9100100, 700119, 700121] ⟨q, q, q, q, trivial⟩ (by decide)).outL ⟨q, q, q, q, trivial⟩ ⟨q, q, trivial⟩)⟩
theorem c_desc_Names (n : Nat) (M : Bs) (w0 : World) (hM : bM M w0) (d_ : Desc) (a0 : OA) (c0 : Nat) (b0 : OA) (d0 : Nat) (a1 : (d_.Name).length ≤ 9223372036854775807) (P0 : sR Rep.str M w0 a0 c0 d_.Path) (Q0 : sR RDesc M w0 b0 d0 d_.Kids) (r : ((List (List UInt8)) × (List (List UInt8)))) (hg : desc_Names n d_ = some r) :
    CA Tryz.prog 66 [.agg #[.int .i64 (d_.Op), vT d_.Name, sl a0 d_.Path c0, sl b0 d_.Kids d0]] w0 (fun v w => ∃ (z0 : OA), ∃ (C0 : Nat), ∃ (B0 : OA), ∃ (D0 : Nat), v = .tuple #[sl z0 r.1 C0, sl B0 r.2 D0] ∧ (SlR Rep.str M w z0 (r.1).length C0 (r.1)) ∧ (SlR Rep.str M w B0 (r.2).length D0 (r.2))) := by
 unfold desc_Names at hg
 refine enter M noB func66 q q hM ?_
 intro a s
 refine S s<|esw 101 P0<|esw 102 Q0<|vw fun a s => ?_
 refine l_seq q (l_box (zs := [vI d_.Op, vT d_.Name, sl a0 d_.Path c0, sl b0 d_.Kids d0]) s 1000 q q q q fun b2 a w hb hK s => ?_)
 refine S s<|aw q<|aw q<|nw<|vw fun a s => ?_
 refine l_seq q (l_alloc (zs := [nS]) s 1100 q q q q fun b5 a w hb hK s => ?_)
 refine l_seq q (l_alloc (zs := [nS]) s 1101 q q q q fun b6 a w hb hK s => ?_)
 apply wN
 apply wR
 refine l_seq q (l_alloc (zs := [.nilFunc]) s 1200 q q q q fun b8 a w hb hK s => ?_)
 refine S s<|nw<|vw<|yw q (y_makeFunc (xs := [.tmp 4, .tmp 5, .tmp 6]) (vs := [vP b5 0, vP b6 0, vP b8 0]) · q) fun a s => ?_
 refine l_seq q (l_store (n := 1) (cs' := [.func (.func 107) #[] #[vP b5 0, vP b6 0, vP b8 0]]) s 1200 q q q q q q q q ?_); clear s; intro w hK s; clear hK
 obtain ⟨r9, V0, hg⟩ := zB hg
 refine S s<|nw<|sw<|lw<|yw q (lB 1200 · u139 q)<|yw q (y_loadAll (kk := 1000) · q q u60 q q) fun a s => ?_
 replace s := s.freezeBox (L' := [(1000, Ob.box b2 [vI d_.Op, vT d_.Name, sl a0 d_.Path c0, sl b0 d_.Kids d0] 60), (1100, Ob.box b5 [nS] 25), (1101, Ob.box b6 [nS] 25)]) 110 1200 q ⟨q, q, q, trivial⟩ q
 replace s := s.nilRow 800111 9 1 q
 replace s := s.add 112 (rdF Rep.str ([]) ([])) (rN)
 replace s := s.nilRow 800113 9 1 q
 replace s := s.add 114 (rdF Rep.str ([]) ([])) (rN)
 have hT := s.pk [(1000, 1000), (9100000, 1100), (9100100, 1101), (9200000, 800111), (9200100, 800113)] (by decide)
 replace hT := hT.al 9300000 112 q
 replace hT := hT.al 9300100 114 q
 replace hT := hT.al 9400000 101 q
 replace hT := hT.al 9400001 102 q
 replace hT := hT.al 9400002 110 q
 refine l_seq q (l_callMut (cap := [vP b5 0, vP b6 0, vP b8 0]) hT _ [] (sbA (by rfl)) trivial (by rfl) q func107 q (by kernel_rfl) q q (c_desc_Names_1 n _ _ (hT.restLt [1000]) _ d_ (a0) (c0) (b0) (d0) (by omega) b5 [] (none) (0) ([]) b6 [] (none) (0) ([]) b8 (hT.wd.lendL _ _ _ (sbA (by rfl)) (keep_sub [1000]) (by rfl) (sbA (by rfl))) r9 V0) ?_); intro b1 a' w' hK hp hF
 obtain ⟨j0, k0, csm0_0u13, e0, g0, csm1_0u13, rfl, F0⟩ := hp
 have m0 := St.mk hF (hT.wd.back (sbA (by rfl)) (keep_sub [1000]) (by rfl) F0 (by rfl))
 clear s hT hF F0 hK; revert m0; revert w'; revert a'; intro a w s
 replace s := s.al 115 9300000 rfl |>.al 116 9300100 q
 replace s := s.ren [(1000, Ob.box b2 [vI d_.Op, vT d_.Name, sl a0 d_.Path c0, sl b0 d_.Kids d0] 60), (1100, Ob.box b5 [sl j0 r9.1 k0] 25), (1101, Ob.box b6 [sl e0 r9.2 g0] 25), (800111, Ob.row (j0) ((r9.1).length) (k0) 9 1 (csm0_0u13)), (800113, Ob.row (e0) ((r9.2).length) (g0) 9 1 (csm1_0u13))] [1000, 9100000, 9100100, 9200000, 9200100] ⟨q, q, q, q, q, trivial⟩ (by decide)
 apply wN
 apply wQ
 apply wR
 refine l_seq q (l_buildDense (sz := 1) s 1500 q q q u141 q q q q q q q fun h0 a w M0 hK s => ?_)
 clear M0
 refine S s<|yw q (lS · q u141)<|mw q<|nw fun a s => ?_
 obtain ⟨X0, hg, O0⟩ := zJ hg
 refine c_post (fun a w => ∃ (r0 : (List (List UInt8))) (q0 : (List (List UInt8))) (A18 : OA) (s0 : Nat) (x0 : List Value) (A22 : OA) (t0 : Nat) (y0 : List Value), X0 r0 q0 = some r ∧ St (cx f66 M w0) [(4, vP b5 0), (5, vP b6 0)] [(1100, Ob.box b5 [sl A18 r0 s0] 25), (1101, Ob.box b6 [sl A22 q0 t0] 25), (700117, Ob.row (A18) ((r0).length) (s0) 9 1 (x0)), (700119, Ob.row (A22) ((q0).length) (t0) 9 1 (y0))] [(118, rdF Rep.str (x0) (r0)), (120, rdF Rep.str (y0) (q0))] a w) ?_ ?_
 ·apply wp_block
  refine wp_loop_rounds 3 ?_
  refine c_round ?_
  refine S s<|vw<|yw q (y_lss · q q)<|nw<|sw fun a s => c_t s q ?_
  obtain ⟨n0, R0, hg⟩ := zB hg
  refine S s<|kw<|pw<|sw<|bw<|vw<|yw q (y_rowIndex (sz := 1) (i := 0) · q q u141 q q q (by decide))<|yw q (y_loadRow1 (kk := 1500) · q q q q u140 q)<|aw q<|nw<|sw<|lw<|mw q<|yw q (y_nilCheck · q)<|yw q (lB 1100 · u25 q) fun a s => ?_
  have hT := s.pk [(1000, 1000), (1100, 1100), (1101, 1101), (1500, 1500), (800113, 800113), (9200000, 800111)] (by decide)
  replace hT := hT.al 9300000 115 q
  refine l_seq q (l_callMut (cap := []) hT _ [] (sbA (by rfl)) trivial (by rfl) q func32 q (by kernel_rfl) q q (c_slices_Sort_string n _ _ (hT.restLt [1000, 1100, 1101, 1500, 800113]) _ r9.1 (j0) (k0) (csm0_0u13) (hT.wd.lendL _ _ _ (sbA (by rfl)) (keep_sub [1000, 1100, 1101, 1500, 800113]) (by rfl) (sbA (by rfl))) n0 R0) ?_); intro c1 a' w' hK hp hF
  obtain ⟨csm0_0u29, rfl, G0⟩ := hp
  have m0 := St.mk hF (hT.wd.back (sbA (by rfl)) (keep_sub [1000, 1100, 1101, 1500, 800113]) (by rfl) G0 (by rfl))
  clear s hT hF G0 hK; revert m0; revert w'; revert a'; intro a w s
  replace s := s.al 122 9300000 q
  replace s := s.ren [(1000, Ob.box b2 [vI d_.Op, vT d_.Name, sl a0 d_.Path c0, sl b0 d_.Kids d0] 60), (1100, Ob.box b5 [sl j0 r9.1 k0] 25), (1101, Ob.box b6 [sl e0 r9.2 g0] 25), (1500, Ob.row (some ⟨h0, 0, none⟩) (2) (2) 140 1 (cellsOfL [vP b5 0, vP b6 0])), (800111, Ob.row (j0) ((r9.1).length) (k0) 9 1 (csm0_0u29)), (800113, Ob.row (e0) ((r9.2).length) (g0) 9 1 (csm1_0u13))] [1000, 1100, 1101, 1500, 9200000, 800113] ⟨q, q, q, q, q, q, trivial⟩ (by decide)
  replace s := s.sub (l' := [(0, .agg #[.int .i64 (d_.Op), .string (bs (d_.Name)), .slice (a0) ((d_.Path).length) (c0), .slice (b0) ((d_.Kids).length) (d0)]), (1, .pointer (some ⟨b2, 0, none⟩)), (2, .slice (none) (0) (0)), (3, .slice (none) (0) (0)), (4, .pointer (some ⟨b5, 0, none⟩)), (5, .pointer (some ⟨b6, 0, none⟩)), (6, .pointer (some ⟨b8, 0, none⟩)), (8, .pointer (some ⟨b5, 0, none⟩)), (9, .func (.func 107) #[] #[.pointer (some ⟨b5, 0, none⟩), .pointer (some ⟨b6, 0, none⟩), .pointer (some ⟨b8, 0, none⟩)]), (10, .func (.func 107) #[] #[.pointer (some ⟨b5, 0, none⟩), .pointer (some ⟨b6, 0, none⟩), .pointer (some ⟨b8, 0, none⟩)]), (11, .agg #[.int .i64 (d_.Op), .string (bs (d_.Name)), .slice (a0) ((d_.Path).length) (c0), .slice (b0) ((d_.Kids).length) (d0)]), (12, .tuple #[]), (13, .slice (some ⟨h0, 0, none⟩) (2) (2)), (14, .int .i64 (2)), (15, .int .i64 (0)), (16, .bool (true)), (17, .pointer (some ⟨h0, 0 * 1, none⟩)), (18, .pointer (some ⟨b5, 0, none⟩)), (19, .pointer (some ⟨b5, 0, none⟩)), (20, .pointer (some ⟨b5, 0, none⟩)), (21, .slice (j0) ((r9.1).length) (k0)), (22, .tuple #[])]) (L' := [(1000, Ob.box b2 [.int .i64 (d_.Op), .string (bs (d_.Name)), .slice (a0) ((d_.Path).length) (c0), .slice (b0) ((d_.Kids).length) (d0)] 60), (1100, Ob.box b5 [.slice (j0) ((r9.1).length) (k0)] 25), (1101, Ob.box b6 [.slice (e0) ((r9.2).length) (g0)] 25), (1500, Ob.row (some ⟨h0, 0, none⟩) (2) (2) 140 1 (cellsOfL [.pointer (some ⟨b5, 0, none⟩), .pointer (some ⟨b6, 0, none⟩)])), (800111, Ob.row (j0) ((r9.1).length) (k0) 9 1 (csm0_0u29)), (800113, Ob.row (e0) ((r9.2).length) (g0) 9 1 (csm1_0u13))]) (D' := [(101, slF Rep.str (a0) ((d_.Path).length) (c0) (d_.Path)), (102, slF RDesc (b0) ((d_.Kids).length) (d0) (d_.Kids)), (110, boxF b8 [.func (.func 107) #[] #[.pointer (some ⟨b5, 0, none⟩), .pointer (some ⟨b6, 0, none⟩), .pointer (some ⟨b8, 0, none⟩)]] 139), (112, rdF Rep.str ([]) ([])), (114, rdF Rep.str ([]) ([])), (115, rdF Rep.str (csm0_0u13) (r9.1)), (116, rdF Rep.str (csm1_0u13) (r9.2)), (122, rdF Rep.str (csm0_0u29) (n0))]) ⟨q, q, q, q, q, q, q, q, q, q, q, q, q, q, q, q, q, q, q, q, q, q, trivial⟩ ⟨q, q, q, q, q, q, trivial⟩ ⟨q, q, q, q, q, q, q, q, trivial⟩
  have K0 := rowN (s.wd.holds 800111 _ q) (s.ft 122 q) q q
  replace s := s.eqs (l' := [(0, .agg #[.int .i64 (d_.Op), .string (bs (d_.Name)), .slice (a0) ((d_.Path).length) (c0), .slice (b0) ((d_.Kids).length) (d0)]), (1, .pointer (some ⟨b2, 0, none⟩)), (2, .slice (none) (0) (0)), (3, .slice (none) (0) (0)), (4, .pointer (some ⟨b5, 0, none⟩)), (5, .pointer (some ⟨b6, 0, none⟩)), (6, .pointer (some ⟨b8, 0, none⟩)), (8, .pointer (some ⟨b5, 0, none⟩)), (9, .func (.func 107) #[] #[.pointer (some ⟨b5, 0, none⟩), .pointer (some ⟨b6, 0, none⟩), .pointer (some ⟨b8, 0, none⟩)]), (10, .func (.func 107) #[] #[.pointer (some ⟨b5, 0, none⟩), .pointer (some ⟨b6, 0, none⟩), .pointer (some ⟨b8, 0, none⟩)]), (11, .agg #[.int .i64 (d_.Op), .string (bs (d_.Name)), .slice (a0) ((d_.Path).length) (c0), .slice (b0) ((d_.Kids).length) (d0)]), (12, .tuple #[]), (13, .slice (some ⟨h0, 0, none⟩) (2) (2)), (14, .int .i64 (2)), (15, .int .i64 (0)), (16, .bool (true)), (17, .pointer (some ⟨h0, 0 * 1, none⟩)), (18, .pointer (some ⟨b5, 0, none⟩)), (19, .pointer (some ⟨b5, 0, none⟩)), (20, .pointer (some ⟨b5, 0, none⟩)), (21, .slice (j0) ((n0).length) (k0)), (22, .tuple #[])]) (L' := [(1000, Ob.box b2 [.int .i64 (d_.Op), .string (bs (d_.Name)), .slice (a0) ((d_.Path).length) (c0), .slice (b0) ((d_.Kids).length) (d0)] 60), (1100, Ob.box b5 [.slice (j0) ((n0).length) (k0)] 25), (1101, Ob.box b6 [.slice (e0) ((r9.2).length) (g0)] 25), (1500, Ob.row (some ⟨h0, 0, none⟩) (2) (2) 140 1 (cellsOfL [.pointer (some ⟨b5, 0, none⟩), .pointer (some ⟨b6, 0, none⟩)])), (800111, Ob.row (j0) ((n0).length) (k0) 9 1 (csm0_0u29)), (800113, Ob.row (e0) ((r9.2).length) (g0) 9 1 (csm1_0u13))]) (by simp only [K0]) (by simp only [K0])
  obtain ⟨i0, S0, hg⟩ := zB hg
  refine S s<|nw<|lw<|mw q<|mw q<|yw q (y_nilCheck · q)<|yw q (lB 1100 · u25 q) fun a s => ?_
  have hT := s.pk [(1000, 1000), (1100, 1100), (1101, 1101), (1500, 1500), (800113, 800113), (9200000, 800111)] (by decide)
  replace hT := hT.al 9300000 122 q
  refine l_seq q (l_callMut (cap := []) hT _ [] (sbA (by rfl)) trivial (by rfl) q func33 q (by kernel_rfl) q q (c_slices_Compact_string n _ _ (hT.restLt [1000, 1100, 1101, 1500, 800113]) _ n0 (j0) (k0) (csm0_0u29) (hT.wd.lendL _ _ _ (sbA (by rfl)) (keep_sub [1000, 1100, 1101, 1500, 800113]) (by rfl) (sbA (by rfl))) i0 S0) ?_); intro d1 a' w' hK hp hF
  obtain ⟨Aou34, l0, o0, rfl, H0⟩ := hp
  have m0 := St.mk hF (hT.wd.back (sbA (by rfl)) (keep_sub [1000, 1100, 1101, 1500, 800113]) (by rfl) H0 (by rfl))
  clear s hT hF H0 hK; revert m0; revert w'; revert a'; intro a w s
  replace s := s.al 124 9300000 q
  replace s := s.ren [(1000, Ob.box b2 [vI d_.Op, vT d_.Name, sl a0 d_.Path c0, sl b0 d_.Kids d0] 60), (1100, Ob.box b5 [sl j0 n0 k0] 25), (1101, Ob.box b6 [sl e0 r9.2 g0] 25), (1500, Ob.row (some ⟨h0, 0, none⟩) (2) (2) 140 1 (cellsOfL [vP b5 0, vP b6 0])), (800111, Ob.row (Aou34) ((i0).length) (l0) 9 1 (o0)), (800113, Ob.row (e0) ((r9.2).length) (g0) 9 1 (csm1_0u13))] [1000, 1100, 1101, 1500, 9200000, 800113] ⟨q, q, q, q, q, q, trivial⟩ (by decide)
  refine qq s q (y_nilCheck s q) fun a s => ?_
  refine l_seq q (l_store (n := 1) (cs' := [sl Aou34 i0 l0]) s 1100 q q q q q q q q ?_); clear s; intro w hK s; clear hK
  apply wO
  refine p_inN ?_
  obtain ⟨Y0, hg⟩ := zC hg
  refine S s<|pw<|lw<|yw q (y_addN (i := 0) (j := 1) · q q (in64.2 (by omega)))<|mw q<|nw fun a s => ?_
  refine c_round ?_
  refine S s<|vw<|yw q (y_lss · q q)<|nw<|sw fun a s => c_t s q ?_
  obtain ⟨p0, T0, hg⟩ := zB hg
  refine S s<|kw<|pw<|sw<|bw<|vw<|yw q (y_rowIndex (sz := 1) (i := 1) · q q u141 q q q (by decide))<|yw q (y_loadRow1 (kk := 1500) · q q q q u140 q)<|aw q<|nw<|sw<|lw<|mw q<|yw q (y_nilCheck · q)<|yw q (lB 1101 · u25 q) fun a s => ?_
  have hT := s.pk [(1000, 1000), (1100, 1100), (1101, 1101), (1500, 1500), (800111, 800111), (9200000, 800113)] (by decide)
  replace hT := hT.al 9300000 116 q
  refine l_seq q (l_callMut (cap := []) hT _ [] (sbA (by rfl)) trivial (by rfl) q func32 q (by kernel_rfl) q q (c_slices_Sort_string n _ _ (hT.restLt [1000, 1100, 1101, 1500, 800111]) _ r9.2 (e0) (g0) (csm1_0u13) (hT.wd.lendL _ _ _ (sbA (by rfl)) (keep_sub [1000, 1100, 1101, 1500, 800111]) (by rfl) (sbA (by rfl))) p0 T0) ?_); intro e1 a' w' hK hp hF
  obtain ⟨csm0_0u40, rfl, I0⟩ := hp
  have m0 := St.mk hF (hT.wd.back (sbA (by rfl)) (keep_sub [1000, 1100, 1101, 1500, 800111]) (by rfl) I0 (by rfl))
  clear s hT hF I0 hK; revert m0; revert w'; revert a'; intro a w s
  replace s := s.al 126 9300000 q
  replace s := s.ren [(1000, Ob.box b2 [vI d_.Op, vT d_.Name, sl a0 d_.Path c0, sl b0 d_.Kids d0] 60), (1100, Ob.box b5 [sl Aou34 i0 l0] 25), (1101, Ob.box b6 [sl e0 r9.2 g0] 25), (1500, Ob.row (some ⟨h0, 0, none⟩) (2) (2) 140 1 (cellsOfL [vP b5 0, vP b6 0])), (800111, Ob.row (Aou34) ((i0).length) (l0) 9 1 (o0)), (800113, Ob.row (e0) ((r9.2).length) (g0) 9 1 (csm0_0u40))] [1000, 1100, 1101, 1500, 800111, 9200000] ⟨q, q, q, q, q, q, trivial⟩ (by decide)
  replace s := s.sub (l' := [(0, .agg #[.int .i64 (d_.Op), .string (bs (d_.Name)), .slice (a0) ((d_.Path).length) (c0), .slice (b0) ((d_.Kids).length) (d0)]), (1, .pointer (some ⟨b2, 0, none⟩)), (2, .slice (none) (0) (0)), (3, .slice (none) (0) (0)), (4, .pointer (some ⟨b5, 0, none⟩)), (5, .pointer (some ⟨b6, 0, none⟩)), (6, .pointer (some ⟨b8, 0, none⟩)), (8, .pointer (some ⟨b6, 0, none⟩)), (9, .func (.func 107) #[] #[.pointer (some ⟨b5, 0, none⟩), .pointer (some ⟨b6, 0, none⟩), .pointer (some ⟨b8, 0, none⟩)]), (10, .func (.func 107) #[] #[.pointer (some ⟨b5, 0, none⟩), .pointer (some ⟨b6, 0, none⟩), .pointer (some ⟨b8, 0, none⟩)]), (11, .agg #[.int .i64 (d_.Op), .string (bs (d_.Name)), .slice (a0) ((d_.Path).length) (c0), .slice (b0) ((d_.Kids).length) (d0)]), (12, .tuple #[]), (13, .slice (some ⟨h0, 0, none⟩) (2) (2)), (14, .int .i64 (2)), (15, .int .i64 (((1 : Nat) : Int))), (16, .bool (true)), (17, .pointer (some ⟨h0, 1 * 1, none⟩)), (18, .pointer (some ⟨b6, 0, none⟩)), (19, .pointer (some ⟨b6, 0, none⟩)), (20, .pointer (some ⟨b6, 0, none⟩)), (21, .slice (e0) ((r9.2).length) (g0)), (22, .tuple #[]), (23, .pointer (some ⟨b5, 0, none⟩)), (24, .pointer (some ⟨b5, 0, none⟩)), (25, .pointer (some ⟨b5, 0, none⟩)), (27, .slice (Aou34) ((i0).length) (l0)), (28, .pointer (some ⟨b5, 0, none⟩)), (29, .int .i64 (((1 : Nat) : Int)))]) (L' := [(1000, Ob.box b2 [.int .i64 (d_.Op), .string (bs (d_.Name)), .slice (a0) ((d_.Path).length) (c0), .slice (b0) ((d_.Kids).length) (d0)] 60), (1100, Ob.box b5 [.slice (Aou34) ((i0).length) (l0)] 25), (1101, Ob.box b6 [.slice (e0) ((r9.2).length) (g0)] 25), (1500, Ob.row (some ⟨h0, 0, none⟩) (2) (2) 140 1 (cellsOfL [.pointer (some ⟨b5, 0, none⟩), .pointer (some ⟨b6, 0, none⟩)])), (800111, Ob.row (Aou34) ((i0).length) (l0) 9 1 (o0)), (800113, Ob.row (e0) ((r9.2).length) (g0) 9 1 (csm0_0u40))]) (D' := [(101, slF Rep.str (a0) ((d_.Path).length) (c0) (d_.Path)), (102, slF RDesc (b0) ((d_.Kids).length) (d0) (d_.Kids)), (110, boxF b8 [.func (.func 107) #[] #[.pointer (some ⟨b5, 0, none⟩), .pointer (some ⟨b6, 0, none⟩), .pointer (some ⟨b8, 0, none⟩)]] 139), (112, rdF Rep.str ([]) ([])), (114, rdF Rep.str ([]) ([])), (115, rdF Rep.str (csm0_0u13) (r9.1)), (116, rdF Rep.str (csm1_0u13) (r9.2)), (122, rdF Rep.str (csm0_0u29) (n0)), (124, rdF Rep.str (o0) (i0)), (126, rdF Rep.str (csm0_0u40) (p0))]) ⟨q, q, q, q, q, q, q, q, q, q, q, q, q, q, q, q, q, q, q, q, q, q, q, q, q, q, q, q, trivial⟩ ⟨q, q, q, q, q, q, trivial⟩ ⟨q, q, q, q, q, q, q, q, q, q, trivial⟩
  have L0 := rowN (s.wd.holds 800113 _ q) (s.ft 126 q) q q
  replace s := s.eqs (l' := [(0, .agg #[.int .i64 (d_.Op), .string (bs (d_.Name)), .slice (a0) ((d_.Path).length) (c0), .slice (b0) ((d_.Kids).length) (d0)]), (1, .pointer (some ⟨b2, 0, none⟩)), (2, .slice (none) (0) (0)), (3, .slice (none) (0) (0)), (4, .pointer (some ⟨b5, 0, none⟩)), (5, .pointer (some ⟨b6, 0, none⟩)), (6, .pointer (some ⟨b8, 0, none⟩)), (8, .pointer (some ⟨b6, 0, none⟩)), (9, .func (.func 107) #[] #[.pointer (some ⟨b5, 0, none⟩), .pointer (some ⟨b6, 0, none⟩), .pointer (some ⟨b8, 0, none⟩)]), (10, .func (.func 107) #[] #[.pointer (some ⟨b5, 0, none⟩), .pointer (some ⟨b6, 0, none⟩), .pointer (some ⟨b8, 0, none⟩)]), (11, .agg #[.int .i64 (d_.Op), .string (bs (d_.Name)), .slice (a0) ((d_.Path).length) (c0), .slice (b0) ((d_.Kids).length) (d0)]), (12, .tuple #[]), (13, .slice (some ⟨h0, 0, none⟩) (2) (2)), (14, .int .i64 (2)), (15, .int .i64 (((1 : Nat) : Int))), (16, .bool (true)), (17, .pointer (some ⟨h0, 1 * 1, none⟩)), (18, .pointer (some ⟨b6, 0, none⟩)), (19, .pointer (some ⟨b6, 0, none⟩)), (20, .pointer (some ⟨b6, 0, none⟩)), (21, .slice (e0) ((p0).length) (g0)), (22, .tuple #[]), (23, .pointer (some ⟨b5, 0, none⟩)), (24, .pointer (some ⟨b5, 0, none⟩)), (25, .pointer (some ⟨b5, 0, none⟩)), (27, .slice (Aou34) ((i0).length) (l0)), (28, .pointer (some ⟨b5, 0, none⟩)), (29, .int .i64 (((1 : Nat) : Int)))]) (L' := [(1000, Ob.box b2 [.int .i64 (d_.Op), .string (bs (d_.Name)), .slice (a0) ((d_.Path).length) (c0), .slice (b0) ((d_.Kids).length) (d0)] 60), (1100, Ob.box b5 [.slice (Aou34) ((i0).length) (l0)] 25), (1101, Ob.box b6 [.slice (e0) ((p0).length) (g0)] 25), (1500, Ob.row (some ⟨h0, 0, none⟩) (2) (2) 140 1 (cellsOfL [.pointer (some ⟨b5, 0, none⟩), .pointer (some ⟨b6, 0, none⟩)])), (800111, Ob.row (Aou34) ((i0).length) (l0) 9 1 (o0)), (800113, Ob.row (e0) ((p0).length) (g0) 9 1 (csm0_0u40))]) (by simp only [L0]) (by simp only [L0])
  obtain ⟨u0, U0, hg⟩ := zB hg
  refine S s<|nw<|lw<|mw q<|mw q<|yw q (y_nilCheck · q)<|yw q (lB 1101 · u25 q) fun a s => ?_
  have hT := s.pk [(1000, 1000), (1100, 1100), (1101, 1101), (1500, 1500), (800111, 800111), (9200000, 800113)] (by decide)
  replace hT := hT.al 9300000 126 q
  refine l_seq q (l_callMut (cap := []) hT _ [] (sbA (by rfl)) trivial (by rfl) q func33 q (by kernel_rfl) q q (c_slices_Compact_string n _ _ (hT.restLt [1000, 1100, 1101, 1500, 800111]) _ p0 (e0) (g0) (csm0_0u40) (hT.wd.lendL _ _ _ (sbA (by rfl)) (keep_sub [1000, 1100, 1101, 1500, 800111]) (by rfl) (sbA (by rfl))) u0 U0) ?_); intro g1 a' w' hK hp hF
  obtain ⟨Aou45, v0, E0, rfl, J0⟩ := hp
  have m0 := St.mk hF (hT.wd.back (sbA (by rfl)) (keep_sub [1000, 1100, 1101, 1500, 800111]) (by rfl) J0 (by rfl))
  clear s hT hF J0 hK; revert m0; revert w'; revert a'; intro a w s
  replace s := s.al 128 9300000 q
  replace s := s.ren [(1000, Ob.box b2 [vI d_.Op, vT d_.Name, sl a0 d_.Path c0, sl b0 d_.Kids d0] 60), (1100, Ob.box b5 [sl Aou34 i0 l0] 25), (1101, Ob.box b6 [sl e0 p0 g0] 25), (1500, Ob.row (some ⟨h0, 0, none⟩) (2) (2) 140 1 (cellsOfL [vP b5 0, vP b6 0])), (800111, Ob.row (Aou34) ((i0).length) (l0) 9 1 (o0)), (800113, Ob.row (Aou45) ((u0).length) (v0) 9 1 (E0))] [1000, 1100, 1101, 1500, 800111, 9200000] ⟨q, q, q, q, q, q, trivial⟩ (by decide)
  refine qq s q (y_nilCheck s q) fun a s => ?_
  refine l_seq q (l_store (n := 1) (cs' := [sl Aou45 u0 v0]) s 1101 q q q q q q q q ?_); clear s; intro w hK s; clear hK
  apply wO
  refine p_inN ?_
  obtain ⟨Z0, hg⟩ := zC hg
  refine S s<|pw<|lw<|yw q (y_addN (i := 1) (j := 1) · q q (in64.2 (by omega)))<|mw q<|nw fun a s => ?_
  refine c_round ?_
  refine S s<|vw<|yw q (y_lss · q q)<|nw<|sw fun a s => c_f s q ?_
  apply wp_exit
  refine p_then ?_
  refine p_then ?_
  refine p_in ?_
  refine S s<|pw<|alw 118 124 q<|alw 120 128 q fun a s => ?_
  replace s := s.pk [(1000, 1000), (1100, 1100), (1101, 1101), (1500, 1500), (700117, 800111), (700119, 800113)] (by decide)
  exact ⟨(i0), (u0), (Aou34), (l0), (o0), (Aou45), (v0), (E0), hg, (s.sb q q q)⟩
 clear s a; rintro a w ⟨r0, q0, A18, s0, x0, A22, t0, y0, hg, s⟩
 subst O0
 apply wQ
 refine d_plan s [] [(0, some 1100), (1, some 1101), (2, some 0), (3, some 0)] q (by kernel_rfl) (by kernel_rfl) q ?_; clear s; intro wr hZ s; have hR := s.wd
 refine S s<|qw hR q (lB 1100 · u25 q)<|qw hR q (lB 1101 · u25 q)<|qw hR q (y_assign · q)<|qw hR q (y_assign · q) fun a s => ?_
 clear hR hZ
 apply pN
 apply wp_ret
 obtain rfl := si hg
 refine fin2 (fn := Tryz.f66) s q (r_tmp s q) (r_tmp s q) ?_
 exact ⟨(A18), (s0), (A22), (t0), q, (s.rowOut (R := Rep.str) (kk := 700117) q q (s.ft 118 q)), (s.rowOut (R := Rep.str) (kk := 700119) q q (s.ft 120 q))⟩
theorem c_module_uses (n : Nat) (M : Bs) (w0 : World) (hM : bM M w0) (t_ : Module) (Q0 : OA) (h1 : Nat) (v0 : OA) (x0 : Nat) (R0 : OA) (i1 : Nat) (S0 : OA) (j1 : Nat) (T0 : OA) (k1 : Nat) (U0 : OA) (l1 : Nat) (V0 : OA) (n1 : Nat) (X0 : OA) (o1 : Nat) (P0 : OA) (g1 : Nat) (c4 : (t_.Name).length ≤ 9223372036854775807) (c3 : sR Rep.str M w0 Q0 h1 t_.Imports) (d3 : sR RTypeDecl M w0 v0 x0 t_.Types) (e3 : sR RDef M w0 R0 i1 t_.Templates) (g3 : sR REntryDecl M w0 S0 j1 t_.Entries) (h3 : sR RLexDecl M w0 T0 k1 t_.LexRules) (i3 : sR RDef M w0 U0 l1 t_.Rules) (j3 : sR RDef M w0 V0 n1 t_.Roots) (l3 : sR (Rep.list Rep.str) M w0 X0 o1 t_.Checks) (b3 : sR Rep.str M w0 P0 g1 t_.Drops) (r : (List (List UInt8))) (hg : module_uses n t_ = some r) :
    CA Tryz.prog 38 [.agg #[vT t_.Name, sl Q0 t_.Imports h1, sl v0 t_.Types x0, sl R0 t_.Templates i1, sl S0 t_.Entries j1, sl T0 t_.LexRules k1, sl U0 t_.Rules l1, sl V0 t_.Roots n1, sl X0 t_.Checks o1, sl P0 t_.Drops g1]] w0 (fun v w => ∃ (E1 : OA), ∃ (I1 : Nat), v = sl E1 r I1 ∧ (SlR Rep.str M w E1 (r).length I1 (r))) := by
 unfold module_uses at hg
 refine enter M noB func38 q q hM ?_
 intro a s
 let F : Al Fact := [(101, sF Rep.str Q0 h1 t_.Imports), (102, sF RTypeDecl v0 x0 t_.Types), (103, sF RDef R0 i1 t_.Templates), (104, sF REntryDecl S0 j1 t_.Entries), (105, sF RLexDecl T0 k1 t_.LexRules), (106, sF RDef U0 l1 t_.Rules), (107, sF RDef V0 n1 t_.Roots), (108, sF (Rep.list Rep.str) X0 o1 t_.Checks), (109, sF Rep.str P0 g1 t_.Drops)]
 let B : List Value := [vT t_.Name, sl Q0 t_.Imports h1, sl v0 t_.Types x0, sl R0 t_.Templates i1, sl S0 t_.Entries j1, sl T0 t_.LexRules k1, sl U0 t_.Rules l1, sl V0 t_.Roots n1, sl X0 t_.Checks o1, sl P0 t_.Drops g1]
 refine S s<|esw 101 c3<|esw 102 d3<|esw 103 e3<|esw 104 g3<|esw 105 h3<|esw 106 i3<|esw 107 j3<|esw 108 l3<|esw 109 b3<|vw fun a s => ?_
 refine l_seq q (l_box (zs := B) s 1000 q q q q fun b2 a w hb hK s => ?_)
 refine S s<|aw q<|nw<|vw<|aw q<|nw<|sw<|vw<|yw q (bF 2 · u38 q)<|yw q (lB 1000 · u32 q)<|yw q (lS · q u32)<|mw q<|nw fun a s => ?_
 obtain ⟨k3, hg, L2⟩ := zJ hg
 refine c_post (fun a w => ∃ (J0 : (List (List UInt8))) (A5 : OA) (c6 : Nat) (s1 : List Value), k3 J0 = some r ∧ St (cx f38 M w0) [(1, vP b2 0), (3, sl A5 J0 c6)] [(1000, Ob.box b2 B 38), (700110, Ob.row (A5) ((J0).length) (c6) 9 1 (s1))] (F ++ [(111, rdF Rep.str (s1) (J0))]) a w) ?_ ?_
 ·apply wp_block
  replace s := s.nilRow 700112 9 1 q
  replace s := s.add 113 (rdF Rep.str [] []) (rN)
  refine c_loop (σ := Nat) (fun m1 a w => ∃ (p0 : (List (List UInt8))) (n0 : Nat) (A9 : OA) (Y0 : Nat) (E0 : List Value), module_uses_L0 n t_ k3 m1 p0 n0 = some r ∧ St (cx f38 M w0) [(1, vP b2 0), (3, sl A9 p0 Y0), (17, sl v0 t_.Types x0), (18, vI ((((t_.Types).length : Nat) : Int))), (19, vI (((n0 : Nat) : Int)))] [(1000, Ob.box b2 B 38), (700112, Ob.row (A9) ((p0).length) (Y0) 9 1 (E0))] (F ++ [(113, rdF Rep.str (E0) (p0))]) a w) (fun m1 => m1) n ⟨([]), (0), (none), (0), ([]), hg, (s.sb q q q)⟩ ?_
  clear s a; rintro m1 a w ⟨p0, n0, A9, Y0, E0, hg, s⟩
  rcases m1 with _ | m1
  ·rw [module_uses_L0] at hg; cases hg
  rw [module_uses_L0] at hg
  refine S s<|vw<|yw q (y_lssN (i := n0) (j := ((t_.Types).length)) · q q)<|nw<|sw fun a s => c_dec s q (fun x1 => ?_) (fun x1 => ?_)
  ·replace hg := br_t hg x1
   have Y3 := SlR.mx (s.ft 102 q)
   apply wp_skip
   apply pN
   apply wQ
   obtain ⟨Z1, hg, K2⟩ := zJ hg
   refine c_post (fun a w => ∃ (I0 : (List (List UInt8))) (A17 : OA) (a1 : Nat) (p1 : List Value), Z1 I0 = some r ∧ St (cx f38 M w0) [(1, vP b2 0), (3, sl A17 I0 a1), (17, sl v0 t_.Types x0), (18, vI ((((t_.Types).length : Nat) : Int))), (19, vI (((n0 : Nat) : Int)))] [(1000, Ob.box b2 B 38), (700114, Ob.row (A17) ((I0).length) (a1) 9 1 (p1))] (F ++ [(115, rdF Rep.str (p1) (I0))]) a w) ?_ ?_
   ·obtain ⟨c0, U1, hg⟩ := zB hg
    apply wp_block
    apply wQ
    apply wL
    obtain ⟨n4, F2, Q2, U2, S3, B2, w2⟩ := SlR.elemX (s.ft 102 q) U1
    refine qq s q (eL 3 n0 s u32 F2 (lt_of_get U1) q) fun a s => ?_
    obtain ⟨g2, n2, u1, v1, rfl, e4, n3, o3⟩ := RTypeDecl.open B2
    refine S s<|nsw 118 n3<|nsw 119 o3<|yw q (y_ldp · q Q2 U2 (by simpa using w2) u49 q q) fun a s => ?_
    refine l_seq q (l_alloc (zs := [vT ([]), nS, nS]) s 1402 q q q q fun K3 a w hb hK s => ?_)
    refine l_seq q (l_store (n := 3) (cs' := [vT c0.Name, sl g2 c0.Supers n2, sl u1 c0.Feats v1]) s 1402 q q q q q q q q ?_); clear s; intro w hK s; clear hK
    obtain ⟨Q1, hg⟩ := zC hg
    refine S s<|nw<|sw<|lw<|mw q<|yw q (bF 1 · u49 q)<|yw q (lB 1402 · u25 q) fun a s => ?_
    obtain ⟨D1, x3, Z2⟩ := SlR.src (s.ft 118 q)
    replace s := s.add 122 (rdF Rep.str D1 (c0.Supers)) Z2
    refine l_seq q (l_append (sz := 1) (by_ := 16) (N := (p0 ++ c0.Supers).length) s 700112 q q q u25 q q q q q x3 (by rw [List.length_append]; try rfl) q (rmA Q1 q) (rmB Q1) q fun h2 o2 a w hA hK s => ?_)
    replace s := s.add 123 (rdF Rep.str (E0 ++ D1) (p0 ++ c0.Supers)) (RdAll.append (s.ft 113 q) (s.ft 122 q))
    refine S s<|aw q<|nw<|vw<|yw q (bF 2 · u49 q)<|yw q (lB 1402 · u47 q)<|yw q (lS · q u47)<|mw q<|nw<|bw<|alw 125 123 q fun a s => ?_
    replace s := s.pk [(1000, 1000), (1402, 1402), (700124, 700112)] (by decide)
    refine c_loop (σ := Nat) (fun m2 a w => ∃ (o0 : (List (List UInt8))) (z0 : Nat) (A33 : OA) (b1 : Nat) (G0 : List Value), module_uses_L1 n Z1 c0 m2 o0 z0 = some r ∧ St (cx f38 M w0) [(1, vP b2 0), (3, sl A33 o0 b1), (17, sl v0 t_.Types x0), (18, vI ((((t_.Types).length : Nat) : Int))), (19, vI (((n0 : Nat) : Int))), (28, sl u1 c0.Feats v1), (29, vI ((((c0.Feats).length : Nat) : Int))), (30, vI (((z0 : Nat) : Int)))] [(1000, Ob.box b2 B 38), (700124, Ob.row (A33) ((o0).length) (b1) 9 1 (G0))] (F ++ [(119, sF RFeatDecl u1 v1 c0.Feats), (125, rdF Rep.str (G0) (o0))]) a w) (fun m2 => m2) n ⟨(p0 ++ c0.Supers), (0), (h2), (o2), (E0 ++ D1), hg, (s.sb q q q)⟩ ?_
    clear s a; rintro m2 a w ⟨o0, z0, A33, b1, G0, hg, s⟩
    rcases m2 with _ | m2
    ·rw [module_uses_L1] at hg; cases hg
    rw [module_uses_L1] at hg
    refine S s<|vw<|yw q (y_lssN (i := z0) (j := ((c0.Feats).length)) · q q)<|nw<|sw fun a s => c_dec s q (fun y1 => ?_) (fun y1 => ?_)
    ·replace hg := br_t hg y1
     have Z3 := SlR.mx (s.ft 119 q)
     obtain ⟨s0, V1, hg⟩ := zB hg
     refine S s<|kw<|pw<|sw<|bw<|sw<|lw fun a s => ?_
     obtain ⟨o4, G2, R2, V2, T3, C2, x2⟩ := SlR.elemX (s.ft 119 q) V1
     refine qq s q (eL 2 z0 s u47 G2 (lt_of_get V1) q) fun a s => ?_
     obtain ⟨rfl, g4, h4⟩ := RFeatDecl.open C2
     refine qq s q (y_ldp s q R2 V2 (by simpa using x2) u82 q q) fun a s => ?_
     refine l_seq q (l_alloc (zs := [vT ([]), vT ([])]) s 1802 q q q q fun L3 a w hb hK s => ?_)
     refine l_seq q (l_store (n := 2) (cs' := [vT s0.Feat, vT s0.Value]) s 1802 q q q q q q q q ?_); clear s; intro w hK s; clear hK
     obtain ⟨R1, hg⟩ := zC hg
     refine S s<|nw<|lw<|mw q<|yw q (bF 1 · u82 q)<|yw q (lB 1802 · u9 q) fun a s => ?_
     refine l_seq q (l_buildDense (sz := 1) s 1903 q q q u25 q q q q q q q fun M3 a w t2 hK s => ?_)
     clear t2
     replace s := s.add 128 (rdF Rep.str (cellsOfL [vT s0.Value]) ([s0.Value])) (RdAll.cons (by exact ⟨q, (by omega)⟩) (rN))
     have y3 := row_src (s.wd.holds 1903 _ q) (RdAll.one (s.ft 128 q))
     refine l_seq q (l_append (sz := 1) (by_ := 16) (N := (o0 ++ [s0.Value]).length) s 700124 q q q u25 q q q q q y3 (by rw [List.length_append]; try rfl) q (rmA R1 q) (rmB R1) q fun i2 p2 a w hA hK s => ?_)
     replace s := s.add 129 (rdF Rep.str (G0 ++ (cellsOfL [vT s0.Value])) (o0 ++ [s0.Value])) (RdAll.append (s.ft 125 q) (s.ft 128 q))
     refine asg s q q fun a s => ?_
     apply wO
     refine p_inN ?_
     refine S s<|pw<|lw<|yw q (y_addN (i := z0) (j := 1) · q q (in64.2 (by omega)))<|mw q<|nw<|alw 125 129 q fun a s => ?_
     exact ⟨m2, Nat.lt_succ_self _, ⟨(o0 ++ [s0.Value]), (z0 + 1), (i2), (p2), (G0 ++ (cellsOfL [vT s0.Value])), hg, (s.sb q q q)⟩⟩
    replace hg := br_f hg y1
    apply wp_exit
    refine p_then ?_
    refine p_then ?_
    refine p_in ?_
    refine p_inN ?_
    apply pN
    replace s := s.al 115 125 q
    replace s := s.pk [(1000, 1000), (700114, 700124)] (by decide)
    exact ⟨(o0), (A33), (b1), (G0), hg, (s.sb q q q)⟩
   clear s a; rintro a w ⟨I0, A17, a1, p1, hg, s⟩
   subst K2
   refine S s<|lw<|yw q (y_addN (i := n0) (j := 1) · q q (in64.2 (by omega)))<|mw q<|nw<|alw 113 115 q fun a s => ?_
   replace s := s.pk [(1000, 1000), (700112, 700114)] (by decide)
   exact ⟨m1, Nat.lt_succ_self _, ⟨(I0), (n0 + 1), (A17), (a1), (p1), hg, (s.sb q q q)⟩⟩
  replace hg := br_f hg x1
  apply wp_exit
  refine p_then ?_
  refine p_then ?_
  refine p_in ?_
  apply pN
  replace s := s.al 111 113 q
  replace s := s.pk [(1000, 1000), (700110, 700112)] (by decide)
  exact ⟨(p0), (A9), (Y0), (E0), hg, (s.sb q q q)⟩
 clear s a; rintro a w ⟨J0, A5, c6, s1, hg, s⟩
 subst L2
 obtain ⟨b0, t3, hg⟩ := zB hg
 refine S s<|sw<|sw<|lw<|yw q (y_loadAll (kk := 1000) · q q u38 q q) fun a s => ?_
 refine lC s q func65 (c_module_definitions n _ _ s.lt _ _ _ _ _ _ _ _ _ _ _ _ _ _ _ _ _ _ _ (by omega) (s.ft 101 q) (s.ft 102 q) (s.ft 103 q) (s.ft 104 q) (s.ft 105 q) (s.ft 106 q) (s.ft 107 q) (s.ft 108 q) (s.ft 109 q) _ t3) fun r4 a w hK hp s => ?_
 obtain ⟨e0, g0, rfl, D3⟩ := hp
 refine S s<|nsw 131 D3<|yw q (lS · q u33)<|mw q<|nw<|bw<|alw 133 111 q fun a s => ?_
 replace s := s.pk [(1000, 1000), (700132, 700110)] (by decide)
 refine c_loop (σ := Nat) (fun m3 a w => ∃ (K0 : (List (List UInt8))) (d0 : Nat) (A59 : OA) (O0 : Nat) (q1 : List Value), module_uses_L2 n b0 m3 K0 d0 = some r ∧ St (cx f38 M w0) [(3, sl A59 K0 O0), (42, sl e0 b0 g0), (43, vI ((((b0).length : Nat) : Int))), (44, vI (((d0 : Nat) : Int)))] [(700132, Ob.row (A59) ((K0).length) (O0) 9 1 (q1))] [(131, sF RDef e0 g0 b0), (133, rdF Rep.str (q1) (K0))] a w) (fun m3 => m3) n ⟨(J0), (0), (A5), (c6), (s1), hg, (s.sb q q q)⟩ ?_
 clear s a; rintro m3 a w ⟨K0, d0, A59, O0, q1, hg, s⟩
 rcases m3 with _ | m3
 ·rw [module_uses_L2] at hg; cases hg
 rw [module_uses_L2] at hg
 refine S s<|vw<|yw q (y_lssN (i := d0) (j := ((b0).length)) · q q)<|nw<|sw fun a s => c_dec s q (fun z1 => ?_) (fun z1 => ?_)
 ·replace hg := br_t hg z1
  have a4 := SlR.mx (s.ft 131 q)
  apply wp_skip
  apply pN
  apply wQ
  obtain ⟨a2, hg, M2⟩ := zJ hg
  refine c_post (fun a w => ∃ (L0 : (List (List UInt8))) (A67 : OA) (c1 : Nat) (r1 : List Value), a2 L0 = some r ∧ St (cx f38 M w0) [(3, sl A67 L0 c1), (42, sl e0 b0 g0), (43, vI ((((b0).length : Nat) : Int))), (44, vI (((d0 : Nat) : Int)))] [(700134, Ob.row (A67) ((L0).length) (c1) 9 1 (r1))] [(131, sF RDef e0 g0 b0), (135, rdF Rep.str (r1) (L0))] a w) ?_ ?_
  ·obtain ⟨a0, X1, hg⟩ := zB hg
   apply wp_block
   apply wQ
   apply wL
   obtain ⟨p4, H2, S2, X2, U3, D2, y2⟩ := SlR.elemX (s.ft 131 q) X1
   refine qq s q (eL 6 d0 s u33 H2 (lt_of_get X1) q) fun a s => ?_
   obtain ⟨h0, j0, i0, k0, j2, q2, rfl, i4, j4, p3, q3, r3⟩ := RDef.open D2
   refine S s<|nsw 139 p3<|nsw 140 q3<|nsw 141 r3<|yw q (y_ldp · q S2 X2 (by simpa using y2) u62 q q) fun a s => ?_
   refine l_seq q (l_alloc (zs := [vT ([]), vI 0, vT ([]), nS, nS, nS]) s 2402 q q q q fun O3 a w hb hK s => ?_)
   refine l_seq q (l_store (n := 6) (cs' := [vT a0.Name, vI a0.Strict.Op, vT a0.Strict.Name, sl h0 a0.Strict.Path j0, sl i0 a0.Strict.Kids k0, sl j2 a0.Defaults q2]) s 2402 q q q q q q q q ?_); clear s; intro w hK s; clear hK
   obtain ⟨S1, hg⟩ := zC hg
   refine S s<|nw<|sw<|lw<|yw q (bF 1 · u62 q)<|yw q (y_loadBox (kk := 2402) (n := 4) (vs := [vI a0.Strict.Op, vT a0.Strict.Name, sl h0 a0.Strict.Path j0, sl i0 a0.Strict.Kids k0]) · q q u60 q q q q) fun a s => ?_
   refine l_seq q (l_buildDense (sz := 4) s 2502 q q q u58 q q q q q q q fun P3 a w u2 hK s => ?_)
   clear u2
   refine S s<|yw q (bF 5 · u62 q)<|yw q (lB 2402 · u58 q) fun a s => ?_
   replace s := s.add 145 (rdF RDesc (cellsOfL [.agg #[_, _, _, _]]) ([a0.Strict])) (RdAll.cons (by exact (RDesc.mk' (x := a0.Strict) (by omega) (s.ft 139 q) (s.ft 140 q))) (rN))
   obtain ⟨t0, z3, a3⟩ := SlR.src (s.ft 141 q)
   replace s := s.add 146 (rdF RDesc t0 (a0.Defaults)) a3
   refine l_seq q (l_append (sz := 4) (by_ := 72) (N := ([a0.Strict] ++ a0.Defaults).length) s 2502 q q q u58 q q q q q z3 (by rw [List.length_append]; try rfl) q (rmA S1 q) (rmB S1) q fun C0 D0 a w hA hK s => ?_)
   replace s := s.add 147 (rdF RDesc ((cellsOfL [.agg #[vI a0.Strict.Op, vT a0.Strict.Name, sl h0 a0.Strict.Path j0, sl i0 a0.Strict.Kids k0]]) ++ t0) ([a0.Strict] ++ a0.Defaults)) (RdAll.append (s.ft 145 q) (s.ft 146 q))
   refine S s<|yw q (lS · q u58)<|mw q<|nw<|bw<|alw 149 133 q fun a s => ?_
   replace s := s.pk [(2402, 2402), (2502, 2502), (700148, 700132)] (by decide)
   refine c_loop (σ := Nat) (fun m4 a w => ∃ (q0 : (List (List UInt8))) (r0 : Nat) (A85 : OA) (d1 : Nat) (H0 : List Value), module_uses_L3 n a2 a0 m4 q0 r0 = some r ∧ St (cx f38 M w0) [(3, sl A85 q0 d1), (42, sl e0 b0 g0), (43, vI ((((b0).length : Nat) : Int))), (44, vI (((d0 : Nat) : Int))), (53, sl C0 ([a0.Strict] ++ a0.Defaults) D0), (54, vI (((([a0.Strict] ++ a0.Defaults).length : Nat) : Int))), (55, vI (((r0 : Nat) : Int)))] [(2502, Ob.row (C0) (([a0.Strict] ++ a0.Defaults).length) (D0) 60 4 ((cellsOfL [.agg #[vI a0.Strict.Op, vT a0.Strict.Name, sl h0 a0.Strict.Path j0, sl i0 a0.Strict.Kids k0]]) ++ t0)), (700148, Ob.row (A85) ((q0).length) (d1) 9 1 (H0))] [(131, sF RDef e0 g0 b0), (147, rdF RDesc ((cellsOfL [.agg #[vI a0.Strict.Op, vT a0.Strict.Name, sl h0 a0.Strict.Path j0, sl i0 a0.Strict.Kids k0]]) ++ t0) ([a0.Strict] ++ a0.Defaults)), (149, rdF Rep.str (H0) (q0))] a w) (fun m4 => m4) n ⟨(K0), (0), (A59), (O0), (q1), hg, (s.sb q q q)⟩ ?_
   clear s a; rintro m4 a w ⟨q0, r0, A85, d1, H0, hg, s⟩
   rcases m4 with _ | m4
   ·rw [module_uses_L3] at hg; cases hg
   rw [module_uses_L3] at hg
   refine S s<|vw<|yw q (y_lssN (i := r0) (j := (([a0.Strict] ++ a0.Defaults).length)) · q q)<|nw<|sw fun a s => c_dec s q (fun B1 => ?_) (fun B1 => ?_)
   ·replace hg := br_t hg B1
    have b4 := row_mx (s.wd.holds 2502 _ q)
    apply wp_skip
    apply pN
    apply wQ
    obtain ⟨c2, hg, O2⟩ := zJ hg
    refine c_post (fun a w => ∃ (M0 : (List (List UInt8))) (A93 : OA) (e1 : Nat) (t1 : List Value), c2 M0 = some r ∧ St (cx f38 M w0) [(3, sl A93 M0 e1), (42, sl e0 b0 g0), (43, vI ((((b0).length : Nat) : Int))), (44, vI (((d0 : Nat) : Int))), (53, sl C0 ([a0.Strict] ++ a0.Defaults) D0), (54, vI (((([a0.Strict] ++ a0.Defaults).length : Nat) : Int))), (55, vI (((r0 : Nat) : Int)))] [(2502, Ob.row (C0) (([a0.Strict] ++ a0.Defaults).length) (D0) 60 4 ((cellsOfL [.agg #[vI a0.Strict.Op, vT a0.Strict.Name, sl h0 a0.Strict.Path j0, sl i0 a0.Strict.Kids k0]]) ++ t0)), (700150, Ob.row (A93) ((M0).length) (e1) 9 1 (t1))] [(131, sF RDef e0 g0 b0), (147, rdF RDesc ((cellsOfL [.agg #[vI a0.Strict.Op, vT a0.Strict.Name, sl h0 a0.Strict.Path j0, sl i0 a0.Strict.Kids k0]]) ++ t0) ([a0.Strict] ++ a0.Defaults)), (151, rdF Rep.str (t1) (M0))] a w) ?_ ?_
    ·obtain ⟨u0, Y1, hg⟩ := zB hg
     apply wp_block
     apply wQ
     apply wL
     obtain ⟨I2, Q3, M1⟩ := SlR.row1 (s.wd.holds 2502 _ q) (s.ft 147 q) q q Y1
     refine qq s q (y_rowIndex (sz := 4) (i := r0) s q q u58 q M1 q I2) fun a s => ?_
     have E3 := (s.ft 147 q).at_ _ _ Y1
     obtain ⟨G1, K1, H1, L1, r2, k4, F3, G3⟩ := RDesc.open E3
     refine S s<|nsw 154 F3<|nsw 155 G3<|yw q (y_loadRow (kk := 2502) (vs := [vI u0.Op, vT u0.Name, sl G1 u0.Path K1, sl H1 u0.Kids L1]) · q q M1 r2 u60 q q) fun a s => ?_
     refine l_seq q (l_alloc (zs := [vI 0, vT ([]), nS, nS]) s 2702 q q q q fun I3 a w hb hK s => ?_)
     refine l_seq q (l_store (n := 4) (cs' := [vI u0.Op, vT u0.Name, sl G1 u0.Path K1, sl H1 u0.Kids L1]) s 2702 q q q q q q q q ?_); clear s; intro w hK s; clear hK
     obtain ⟨l0, s3, hg⟩ := zB hg
     refine S s<|nw<|sw<|lw<|yw q (y_loadAll (kk := 2702) · q q u60 q q) fun a s => ?_
     refine lC s q func66 (c_desc_Names n _ _ s.lt _ _ _ _ _ (by omega) (s.ft 154 q) (s.ft 155 q) _ s3) fun q4 a w hK hp s => ?_
     obtain ⟨H3, V3, F1, J1, rfl, B3, C3⟩ := hp
     obtain ⟨O1, hg⟩ := zC hg
     refine S s<|nsw 158 B3<|nsw 159 C3<|mw q<|yw q (y_extract · q q)<|yw q (y_extract · q q)<|aw q<|aw q<|nw<|sw<|lw<|mw q<|mw q fun a s => ?_
     obtain ⟨C1, v3, Y2⟩ := SlR.src (s.ft 158 q)
     replace s := s.add 162 (rdF Rep.str C1 (l0.1)) Y2
     refine l_seq q (l_append (sz := 1) (by_ := 16) (N := (q0 ++ l0.1).length) s 700148 q q q u25 q q q q q v3 (by rw [List.length_append]; try rfl) q (rmA O1 q) (rmB O1) q fun d2 k2 a w hA hK s => ?_)
     replace s := s.add 163 (rdF Rep.str (H0 ++ C1) (q0 ++ l0.1)) (RdAll.append (s.ft 149 q) (s.ft 162 q))
     refine S s<|aw q<|nw<|vw<|mw q<|yw q (lS · q u25)<|mw q<|nw<|bw<|alw 165 163 q fun a s => ?_
     replace s := s.pk [(2502, 2502), (2702, 2702), (700164, 700148)] (by decide)
     refine c_loop (σ := Nat) (fun m5 a w => ∃ (m0 : (List (List UInt8))) (y0 : Nat) (A114 : OA) (Z0 : Nat) (F0 : List Value), module_uses_L4 n c2 l0 m5 m0 y0 = some r ∧ St (cx f38 M w0) [(3, sl A114 m0 Z0), (42, sl e0 b0 g0), (43, vI ((((b0).length : Nat) : Int))), (44, vI (((d0 : Nat) : Int))), (53, sl C0 ([a0.Strict] ++ a0.Defaults) D0), (54, vI (((([a0.Strict] ++ a0.Defaults).length : Nat) : Int))), (55, vI (((r0 : Nat) : Int))), (67, sl F1 l0.2 J1), (68, vI ((((l0.2).length : Nat) : Int))), (69, vI (((y0 : Nat) : Int)))] [(2502, Ob.row (C0) (([a0.Strict] ++ a0.Defaults).length) (D0) 60 4 ((cellsOfL [.agg #[vI a0.Strict.Op, vT a0.Strict.Name, sl h0 a0.Strict.Path j0, sl i0 a0.Strict.Kids k0]]) ++ t0)), (700164, Ob.row (A114) ((m0).length) (Z0) 9 1 (F0))] [(131, sF RDef e0 g0 b0), (147, rdF RDesc ((cellsOfL [.agg #[vI a0.Strict.Op, vT a0.Strict.Name, sl h0 a0.Strict.Path j0, sl i0 a0.Strict.Kids k0]]) ++ t0) ([a0.Strict] ++ a0.Defaults)), (159, sF Rep.str F1 J1 l0.2), (165, rdF Rep.str (F0) (m0))] a w) (fun m5 => m5) n ⟨(q0 ++ l0.1), (0), (d2), (k2), (H0 ++ C1), hg, (s.sb q q q)⟩ ?_
     clear s a; rintro m5 a w ⟨m0, y0, A114, Z0, F0, hg, s⟩
     rcases m5 with _ | m5
     ·rw [module_uses_L4] at hg; cases hg
     rw [module_uses_L4] at hg
     refine S s<|vw<|yw q (y_lssN (i := y0) (j := ((l0.2).length)) · q q)<|nw<|sw fun a s => c_dec s q (fun w1 => ?_) (fun w1 => ?_)
     ·replace hg := br_t hg w1
      have X3 := SlR.mx (s.ft 159 q)
      obtain ⟨B0, T1, hg⟩ := zB hg
      refine S s<|kw<|pw<|sw<|bw<|sw<|lw fun a s => ?_
      obtain ⟨l4, E2, P2, T2, R3, z2, v2⟩ := SlR.elemX (s.ft 159 q) T1
      refine qq s q (eL 1 y0 s u25 E2 (lt_of_get T1) q) fun a s => ?_
      obtain ⟨rfl, d4⟩ := z2
      obtain ⟨J2, hg⟩ := zC hg
      obtain ⟨P1, hg⟩ := zC hg
      refine S s<|yw q (lP · P2 T2 (v2 0 _ q) u9 q)<|aw q<|nw<|lw<|mw q<|mw q<|yw q (y_concat · q q J2) fun a s => ?_
      refine l_seq q (l_buildDense (sz := 1) s 3303 q q q u25 q q q q q q q fun J3 a w s2 hK s => ?_)
      clear s2
      replace s := s.add 168 (rdF Rep.str (cellsOfL [vT ([64] ++ B0)]) ([[64] ++ B0])) (RdAll.cons (by exact ⟨q, (by rw [List.length_append]; omega)⟩) (rN))
      have w3 := row_src (s.wd.holds 3303 _ q) (RdAll.one (s.ft 168 q))
      refine l_seq q (l_append (sz := 1) (by_ := 16) (N := (m0 ++ [[64] ++ B0]).length) s 700164 q q q u25 q q q q q w3 (by simp only [List.length_append]; try rfl) q (rmA P1 q) (rmB P1) q fun e2 l2 a w hA hK s => ?_)
      replace s := s.add 169 (rdF Rep.str (F0 ++ (cellsOfL [vT ([64] ++ B0)])) (m0 ++ [[64] ++ B0])) (RdAll.append (s.ft 165 q) (s.ft 168 q))
      refine asg s q q fun a s => ?_
      apply wO
      refine p_inN ?_
      refine S s<|pw<|lw<|yw q (y_addN (i := y0) (j := 1) · q q (in64.2 (by omega)))<|mw q<|nw<|alw 165 169 q fun a s => ?_
      exact ⟨m5, Nat.lt_succ_self _, ⟨(m0 ++ [[64] ++ B0]), (y0 + 1), (e2), (l2), (F0 ++ (cellsOfL [vT ([64] ++ B0)])), hg, (s.sb q q q)⟩⟩
     replace hg := br_f hg w1
     apply wp_exit
     refine p_then ?_
     refine p_then ?_
     refine p_in ?_
     refine p_inN ?_
     apply pN
     replace s := s.al 151 165 q
     replace s := s.pk [(2502, 2502), (700150, 700164)] (by decide)
     exact ⟨(m0), (A114), (Z0), (F0), hg, (s.sb q q q)⟩
    clear s a; rintro a w ⟨M0, A93, e1, t1, hg, s⟩
    subst O2
    refine S s<|lw<|yw q (y_addN (i := r0) (j := 1) · q q (in64.2 (by omega)))<|mw q<|nw<|alw 149 151 q fun a s => ?_
    replace s := s.pk [(2502, 2502), (700148, 700150)] (by decide)
    exact ⟨m4, Nat.lt_succ_self _, ⟨(M0), (r0 + 1), (A93), (e1), (t1), hg, (s.sb q q q)⟩⟩
   replace hg := br_f hg B1
   apply wp_exit
   refine p_then ?_
   refine p_then ?_
   refine p_in ?_
   refine p_inN ?_
   apply pN
   replace s := s.al 135 149 q
   replace s := s.pk [(2502, 2502), (700134, 700148)] (by decide)
   exact ⟨(q0), (A85), (d1), (H0), hg, (s.sb q q q)⟩
  clear s a; rintro a w ⟨L0, A67, c1, r1, hg, s⟩
  subst M2
  refine S s<|lw<|yw q (y_addN (i := d0) (j := 1) · q q (in64.2 (by omega)))<|mw q<|nw<|alw 133 135 q fun a s => ?_
  replace s := s.pk [(700132, 700134)] (by decide)
  exact ⟨m3, Nat.lt_succ_self _, ⟨(L0), (d0 + 1), (A67), (c1), (r1), hg, (s.sb q q q)⟩⟩
 replace hg := br_f hg z1
 apply wp_exit
 refine p_then ?_
 refine p_then ?_
 refine p_in ?_
 refine S s<|pw<|vw<|mw q<|aw q<|nw fun a s => ?_
 apply wp_ret
 obtain rfl := si hg
 refine fin1 (fn := Tryz.f38) s q (r_tmp s q) ?_
 exact ⟨(A59), (O0), q, (s.rowOut (R := Rep.str) (kk := 700132) q q (s.ft 133 q))⟩
theorem c_module_Link_1 (n : Nat) (M : Bs) (w0 : World) (hM : bM M w0) (x_ : (List UInt8)) (i0 : (x_).length ≤ 9223372036854775807) (c0 : Nat) (a0 : (List (List UInt8))) (b0 : OA) (d0 : Nat) (g0 : sR Rep.str M w0 b0 d0 a0) (e0 : BoxR c0 [.slice (b0) ((a0).length) (d0)] 25 M w0) (r : Bool) (hg : module_Link_1 n x_ a0 = some r) :
    CA Tryz.prog 39 [vT x_, .pointer (some ⟨c0, 0, none⟩)] w0 (fun v w => v = .bool (r)) := by
 unfold module_Link_1 at hg
 refine enter M noB func39 q q hM ?_
 intro a s
 replace s := s.es 101 g0
 replace s := s.ebx 102 e0
 obtain ⟨r1, h0, hg⟩ := zB hg
 refine S s<|vw<|aw q<|nw<|sw<|lw<|yw q (fun s => y_loadF1 s q (s.ft 102 q) q u25 q)<|mw q fun a s => ?_
 refine lV s q func40 (c_slices_Contains_string n _ _ s.lt _ _ _ (s.ft 101 q) _ (by omega) _ h0) fun a w hK s => ?_
 refine S s<|yw q (y_not · q)<|aw q<|nw fun a s => ?_
 apply wp_ret
 obtain rfl := si hg
 exact fT f39 s q q q
theorem c_r22_find (n : Nat) (M : Bs) (w0 : World) (hM : bM M w0) (l_ : (List Module)) (b0 : OA) (c0 : Nat) (m0 : sR RModule M w0 b0 c0 l_) (name_ : (List UInt8)) (T0 : (name_).length ≤ 9223372036854775807) (r : Int) (hg : r22_find n l_ name_ = some r) :
    CA Tryz.prog 28 [sl b0 l_ c0, vT name_] w0 (fun v w => v = .int .i64 (r)) := by
 unfold r22_find at hg
 refine enter M noB func28 q q hM ?_
 intro a s
 refine S s<|esw 101 m0<|vw<|aw q<|nw<|sw<|vw<|aw q<|nw<|bw fun a s => ?_
 refine c_loop (σ := Nat) (fun m1 a w => ∃ (a0 : Nat), r22_find_L0 n l_ name_ m1 a0 = some r ∧ St (cx f28 M w0) [(0, sl b0 l_ c0), (1, vT name_), (5, vI (((a0 : Nat) : Int)))] [] [(101, sF RModule b0 c0 l_)] a w) (fun m1 => m1) n ⟨(0), hg, (s.sb q q q)⟩ ?_
 clear s a; rintro m1 a w ⟨a0, hg, s⟩
 rcases m1 with _ | m1
 ·rw [r22_find_L0] at hg; cases hg
 rw [r22_find_L0] at hg
 refine S s<|sw<|vw<|mw q<|mw q<|yw q (lS · q u22)<|yw q (y_lssN (i := a0) (j := ((l_).length)) · q q)<|nw fun a s => c_dec s q (fun d0 => ?_) (fun d0 => ?_)
 ·replace hg := br_t hg d0
  have S0 := SlR.mx (s.ft 101 q)
  obtain ⟨x5, g0, hg⟩ := zB hg
  refine S s<|kw<|pw<|sw<|bw<|sw<|lw<|mw q<|mw q fun a s => ?_
  obtain ⟨p7, j0, k0, l0, R0, i0, h0⟩ := SlR.elemX (s.ft 101 q) g0
  refine S s<|yw q (eL 10 a0 · u22 j0 (lt_of_get g0) q)<|yw q (pF 0 · u38 q) fun a s => ?_
  obtain ⟨y0, I0, z0, J0, B0, K0, C0, L0, D0, M0, E0, O0, F0, P0, G0, Q0, x0, H0, rfl, U0, o0, p0, q0, r0, s0, t0, u0, v0, n0⟩ := RModule.open i0
  refine S s<|nsw 111 o0<|nsw 112 p0<|nsw 113 q0<|nsw 114 r0<|nsw 115 s0<|nsw 116 t0<|nsw 117 u0<|nsw 118 v0<|nsw 119 n0<|yw q (lP · k0 l0 (h0 0 _ q) u9 q)<|mw q<|yw q (y_seq · q q)<|nw fun a s => c_dec s q (fun e0 => ?_) (fun e0 => ?_)
  ·replace hg := br_t hg e0
   refine S s<|vw<|mw q<|aw q<|nw fun a s => ?_
   apply wp_ret
   refine p_inR ?_
   refine p_thenR ?_
   refine p_thenR ?_
   refine p_inR ?_
   refine p_thenR ?_
   obtain rfl := si hg
   exact fT f28 s q q q
  replace hg := br_f hg e0
  apply wp_skip
  refine p_inN ?_
  refine S s<|pw<|lw<|mw q<|yw q (y_addN (i := a0) (j := 1) · q q (in64.2 (by omega)))<|aw q<|nw fun a s => ?_
  exact ⟨m1, Nat.lt_succ_self _, ⟨(a0 + 1), hg, (s.sb q q q)⟩⟩
 replace hg := br_f hg d0
 apply wp_exit
 refine p_then ?_
 refine p_then ?_
 refine p_in ?_
 refine S s<|pw<|vw<|aw q<|nw fun a s => ?_
 apply wp_ret
 obtain rfl := si hg
 exact fT f28 s q q q
theorem c_r22_has (n : Nat) (M : Bs) (w0 : World) (hM : bM M w0) (l_ : (List (List UInt8))) (b0 : OA) (c0 : Nat) (m0 : sR Rep.str M w0 b0 c0 l_) (s_ : (List UInt8)) (p0 : (s_).length ≤ 9223372036854775807) (r : Bool) (hg : r22_has n l_ s_ = some r) :
    CA Tryz.prog 47 [sl b0 l_ c0, vT s_] w0 (fun v w => v = .bool (r)) := by
 unfold r22_has at hg
 refine enter M noB func47 q q hM ?_
 intro a s
 refine S s<|esw 101 m0<|vw<|aw q<|nw<|sw<|vw<|aw q<|nw<|bw fun a s => ?_
 refine c_loop (σ := Nat) (fun m1 a w => ∃ (a0 : Nat), r22_has_L0 n l_ s_ m1 a0 = some r ∧ St (cx f47 M w0) [(0, sl b0 l_ c0), (1, vT s_), (5, vI (((a0 : Nat) : Int)))] [] [(101, sF Rep.str b0 c0 l_)] a w) (fun m1 => m1) n ⟨(0), hg, (s.sb q q q)⟩ ?_
 clear s a; rintro m1 a w ⟨a0, hg, s⟩
 rcases m1 with _ | m1
 ·rw [r22_has_L0] at hg; cases hg
 rw [r22_has_L0] at hg
 refine S s<|sw<|vw<|mw q<|mw q<|yw q (lS · q u25)<|yw q (y_lssN (i := a0) (j := ((l_).length)) · q q)<|nw fun a s => c_dec s q (fun d0 => ?_) (fun d0 => ?_)
 ·replace hg := br_t hg d0
  have o0 := SlR.mx (s.ft 101 q)
  obtain ⟨x5, g0, hg⟩ := zB hg
  refine S s<|kw<|pw<|sw<|bw<|sw<|lw<|mw q<|mw q fun a s => ?_
  obtain ⟨p7, j0, k0, l0, n0, i0, h0⟩ := SlR.elemX (s.ft 101 q) g0
  refine qq s q (eL 1 a0 s u25 j0 (lt_of_get g0) q) fun a s => ?_
  obtain ⟨rfl, q0⟩ := i0
  refine S s<|yw q (lP · k0 l0 (h0 0 _ q) u9 q)<|mw q<|yw q (y_seq · q q)<|nw fun a s => c_dec s q (fun e0 => ?_) (fun e0 => ?_)
  ·replace hg := br_t hg e0
   refine S s<|vw<|aw q<|nw fun a s => ?_
   apply wp_ret
   refine p_inR ?_
   refine p_thenR ?_
   refine p_thenR ?_
   refine p_inR ?_
   refine p_thenR ?_
   obtain rfl := si hg
   exact fT f47 s q q q
  replace hg := br_f hg e0
  apply wp_skip
  refine p_inN ?_
  refine S s<|pw<|lw<|mw q<|yw q (y_addN (i := a0) (j := 1) · q q (in64.2 (by omega)))<|aw q<|nw fun a s => ?_
  exact ⟨m1, Nat.lt_succ_self _, ⟨(a0 + 1), hg, (s.sb q q q)⟩⟩
 replace hg := br_f hg d0
 apply wp_exit
 refine p_then ?_
 refine p_then ?_
 refine p_in ?_
 refine S s<|pw<|vw<|aw q<|nw fun a s => ?_
 apply wp_ret
 obtain rfl := si hg
 exact fT f47 s q q q
theorem c_r22_Needs (n : Nat) (M : Bs) (w0 : World) (hM : bM M w0) (l_ : (List Module)) (d0 : OA) (e0 : Nat) (j1 : sR RModule M w0 d0 e0 l_) (name_ : (List UInt8)) (m3 : (name_).length ≤ 9223372036854775807) (r : (List (List UInt8))) (hg : r22_Needs n l_ name_ = some r) :
    CA Tryz.prog 21 [sl d0 l_ e0, vT name_] w0 (fun v w => ∃ (s0 : OA), ∃ (t0 : Nat), v = sl s0 r t0 ∧ (SlR Rep.str M w s0 (r).length t0 (r))) := by
 unfold r22_Needs at hg
 refine enter M noB func21 q q hM ?_
 intro a s
 refine S s<|esw 101 j1<|vw<|aw q<|nw<|vw<|mw q fun a s => ?_
 refine l_seq q (l_buildDense (sz := 1) s 1101 q q q u25 q q q q q q q fun b2 a w D0 hK s => ?_)
 clear D0
 refine S s<|aw q<|nw<|sw<|vw<|aw q<|nw<|bw fun a s => ?_
 replace s := s.add 104 (rdF Rep.str (cellsOfL [vT name_]) ([name_])) (RdAll.cons (by exact ⟨q, (by omega)⟩) (rN))
 replace s := s.al 103 104 q
 replace s := s.pk [(700102, 1101)] (by decide)
 refine c_loop (σ := Nat) (fun m1 a w => ∃ (out_3 : (List (List UInt8))) (c0 : Nat) (A4 : OA) (c5 : Nat) (j0 : List Value), r22_Needs_L0 n l_ m1 out_3 c0 = some r ∧ St (cx f21 M w0) [(0, sl d0 l_ e0), (5, sl A4 out_3 c5), (6, vI (((c0 : Nat) : Int)))] [(700102, Ob.row (A4) ((out_3).length) (c5) 9 1 (j0))] [(101, sF RModule d0 e0 l_), (103, rdF Rep.str (j0) (out_3))] a w) (fun m1 => m1) n ⟨([name_]), (0), (some ⟨b2, 0, none⟩), (1), (cellsOfL [vT name_]), hg, (s.sb q q q)⟩ ?_
 clear s a; rintro m1 a w ⟨out_3, c0, A4, c5, j0, hg, s⟩
 rcases m1 with _ | m1
 ·rw [r22_Needs_L0] at hg; cases hg
 rw [r22_Needs_L0] at hg
 refine S s<|sw<|vw<|mw q<|mw q<|yw q (lS · q u25)<|yw q (y_lssN (i := c0) (j := ((out_3).length)) · q q)<|nw fun a s => c_dec s q (fun r0 => ?_) (fun r0 => ?_)
 ·replace hg := br_t hg r0
  have l3 := row_mx (s.wd.holds 700102 _ q)
  apply wp_skip
  apply pN
  apply wQ
  obtain ⟨y0, hg, X0⟩ := zJ hg
  refine c_post (fun a w => ∃ (out_11 : (List (List UInt8))) (A12 : OA) (l0 : Nat) (m0 : List Value), y0 out_11 = some r ∧ St (cx f21 M w0) [(0, sl d0 l_ e0), (5, sl A12 out_11 l0), (6, vI (((c0 : Nat) : Int)))] [(700105, Ob.row (A12) ((out_11).length) (l0) 9 1 (m0))] [(101, sF RModule d0 e0 l_), (106, rdF Rep.str (m0) (out_11))] a w) ?_ ?_
  ·obtain ⟨B3, x0, hg⟩ := zB hg
   obtain ⟨k0, O1, hg⟩ := zB hg
   refine S s<|bw<|sw<|lw<|mw q<|mw q<|mw q fun a s => ?_
   obtain ⟨V0, z2, u0⟩ := SlR.row1 (s.wd.holds 700102 _ q) (s.ft 103 q) q q x0
   refine qq s q (y_rowIndex (sz := 1) (i := c0) s q q u25 q u0 q V0) fun a s => ?_
   have R1 := (s.ft 103 q).at_ _ _ x0
   obtain ⟨C0, s3⟩ := R1
   refine qq s q (y_loadRow1 (kk := 700102) s q q u0 (take1 C0) u9 q) fun a s => ?_
   refine lV s q func28 (c_r22_find n _ _ s.lt _ _ _ (s.ft 101 q) _ (by omega) _ O1) fun a w hK s => ?_
   refine S s<|aw q<|nw<|sw<|vw<|mw q<|yw q (y_lss · q q)<|nw fun a s => c_dec s q (fun o0 => ?_) (fun o0 => ?_)
   ·replace hg := br_t hg o0
    apply wp_exit
    refine p_then ?_
    refine p_in ?_
    apply pN
    replace s := s.al 106 103 q
    replace s := s.pk [(700105, 700102)] (by decide)
    exact ⟨(out_3), (A4), (c5), (j0), hg, (s.sb q q q)⟩
   replace hg := br_f hg o0
   refine S s<|kw<|pw<|vw<|aw q<|nw<|bw<|alw 108 103 q fun a s => ?_
   replace s := s.pk [(700107, 700102)] (by decide)
   refine c_loop (σ := Nat) (fun m2 a w => ∃ (out_26 : (List (List UInt8))) (a0 : Nat) (A27 : OA) (i0 : Nat) (g0 : List Value), r22_Needs_L1 n l_ y0 k0 m2 out_26 a0 = some r ∧ St (cx f21 M w0) [(0, sl d0 l_ e0), (5, sl A27 out_26 i0), (6, vI (((c0 : Nat) : Int))), (7, vI k0), (8, vI (((a0 : Nat) : Int)))] [(700107, Ob.row (A27) ((out_26).length) (i0) 9 1 (g0))] [(101, sF RModule d0 e0 l_), (108, rdF Rep.str (g0) (out_26))] a w) (fun m2 => m2) n ⟨(out_3), (0), (A4), (c5), (j0), hg, (s.sb q q q)⟩ ?_
   clear s a; rintro m2 a w ⟨out_26, a0, A27, i0, g0, hg, s⟩
   rcases m2 with _ | m2
   ·rw [r22_Needs_L1] at hg; cases hg
   rw [r22_Needs_L1] at hg
   obtain ⟨S1, b0, hg⟩ := zB hg
   refine S s<|sw<|sw<|lw<|mw q<|mw q<|mw q fun a s => ?_
   obtain ⟨t3, Q0, Y0, d1, e3, K0, F0⟩ := SlR.elemX (s.ft 101 q) (ix_some b0).1
   refine S s<|yw q (y_elem (sz := 10) (i := ((k0).toNat)) · q q u22 q Q0 (ix_some b0).2.1 (lt_of_get (ix_some b0).1))<|yw q (pF 1 · u38 q) fun a s => ?_
   obtain ⟨U1, C2, V1, D2, X1, E2, Y1, F2, Z1, G2, a2, H2, c2, I2, d2, J2, T1, B2, rfl, n3, l1, n1, o1, p1, q1, r1, s1, t1, k1⟩ := RModule.open K0
   refine S s<|nsw 118 l1<|nsw 119 n1<|nsw 120 o1<|nsw 121 p1<|nsw 122 q1<|nsw 123 r1<|nsw 124 s1<|nsw 125 t1<|nsw 126 k1<|yw q (lP · Y0 d1 (F0 1 _ q) u25 q)<|yw q (lS · q u25)<|yw q (y_lssN (i := a0) (j := ((S1.Imports).length)) · q q)<|nw fun a s => c_dec s q (fun p0 => ?_) (fun p0 => ?_)
   ·replace hg := br_t hg p0
    have k3 := SlR.mx (s.ft 118 q)
    obtain ⟨h0, n0, hg⟩ := zB hg
    obtain ⟨z3, P1, hg⟩ := zB hg
    refine S s<|kw<|pw<|sw<|bw<|sw<|lw<|mw q<|mw q<|mw q fun a s => ?_
    obtain ⟨v3, R0, Z0, e1, g3, L0, G0⟩ := SlR.elemX (s.ft 101 q) (ix_some b0).1
    refine S s<|yw q (y_elem (sz := 10) (i := ((k0).toNat)) · q q u22 q R0 (ix_some b0).2.1 (lt_of_get (ix_some b0).1))<|yw q (pF 1 · u38 q) fun a s => ?_
    obtain ⟨g2, L2, h2, M2, i2, O2, j2, P2, k2, Q2, l2, R2, n2, S2, o2, T2, e2, K2, rfl, o3, v1, w1, x1, y1, z1, B1, C1, D1, u1⟩ := RModule.open L0
    refine S s<|nsw 137 v1<|nsw 138 w1<|nsw 139 x1<|nsw 140 y1<|nsw 141 z1<|nsw 142 B1<|nsw 143 C1<|nsw 144 D1<|nsw 145 u1<|yw q (lP · Z0 e1 (G0 1 _ q) u25 q)<|mw q fun a s => ?_
    obtain ⟨w3, S0, a1, g1, h3, M0, H0⟩ := SlR.elemX (s.ft 137 q) n0
    refine qq s q (eL 1 a0 s u25 S0 (lt_of_get n0) q) fun a s => ?_
    obtain ⟨rfl, p3⟩ := M0
    refine qq s q (lP s a1 g1 (H0 0 _ q) u9 q) fun a s => ?_
    have hT := s
    replace hT := hT.fz (R := Rep.str) (kk := 700107) [] 146 q q (hT.ft 108 q) q
    refine lV s q func47 (c_r22_has n _ _ hT.lt _ _ _ (hT.ft 146 q) _ (by omega) _ P1) fun a w hK s => ?_
    refine S s<|yw q (y_not · q)<|nw fun a s => c_cond s q (fun q0 => ?_) (fun q0 => ?_)
    ·replace hg := br_t hg q0
     obtain ⟨v0, hg⟩ := zC hg
     refine S s<|lw<|mw q<|mw q<|mw q fun a s => ?_
     obtain ⟨x3, T0, b1, h1, i3, O0, I0⟩ := SlR.elemX (s.ft 101 q) (ix_some b0).1
     refine S s<|yw q (y_elem (sz := 10) (i := ((k0).toNat)) · q q u22 q T0 (ix_some b0).2.1 (lt_of_get (ix_some b0).1))<|yw q (pF 1 · u38 q) fun a s => ?_
     obtain ⟨q2, V2, r2, X2, s2, Y2, t2, Z2, u2, a3, v2, b3, w2, c3, x2, d3, p2, U2, rfl, q3, F1, G1, H1, I1, J1, K1, L1, M1, E1⟩ := RModule.open O0
     refine S s<|nsw 158 F1<|nsw 159 G1<|nsw 160 H1<|nsw 161 I1<|nsw 162 J1<|nsw 163 K1<|nsw 164 L1<|nsw 165 M1<|nsw 166 E1<|yw q (lP · b1 h1 (I0 1 _ q) u25 q)<|mw q fun a s => ?_
     obtain ⟨y3, U0, c1, i1, j3, P0, J0⟩ := SlR.elemX (s.ft 158 q) n0
     refine qq s q (eL 1 a0 s u25 U0 (lt_of_get n0) q) fun a s => ?_
     obtain ⟨rfl, r3⟩ := P0
     refine qq s q (lP s c1 i1 (J0 0 _ q) u9 q) fun a s => ?_
     refine l_seq q (l_buildDense (sz := 1) s 2109 q q q u25 q q q q q q q fun y2 a w E0 hK s => ?_)
     clear E0
     replace s := s.add 167 (rdF Rep.str (cellsOfL [vT h0]) ([h0])) (RdAll.cons (by exact ⟨q, (by omega)⟩) (rN))
     have Q1 := row_src (s.wd.holds 2109 _ q) (RdAll.one (s.ft 167 q))
     refine l_seq q (l_append (sz := 1) (by_ := 16) (N := (out_26 ++ [h0]).length) s 700107 q q q u25 q q q q q Q1 (by rw [List.length_append]; try rfl) q (rmA v0 q) (rmB v0) q fun z0 B0 a w hA hK s => ?_)
     replace s := s.add 168 (rdF Rep.str (g0 ++ (cellsOfL [vT h0])) (out_26 ++ [h0])) (RdAll.append (s.ft 108 q) (s.ft 167 q))
     refine asg s q q fun a s => ?_
     apply wO
     refine p_inN ?_
     refine S s<|pw<|lw<|mw q<|yw q (y_addN (i := a0) (j := 1) · q q (in64.2 (by omega)))<|aw q<|nw<|alw 108 168 q fun a s => ?_
     exact ⟨m2, Nat.lt_succ_self _, ⟨(out_26 ++ [h0]), (a0 + 1), (z0), (B0), (g0 ++ (cellsOfL [vT h0])), hg, (s.sb q q q)⟩⟩
    replace hg := br_n hg q0
    apply wp_skip
    refine p_inN ?_
    refine S s<|pw<|lw<|mw q<|yw q (y_addN (i := a0) (j := 1) · q q (in64.2 (by omega)))<|aw q<|nw<|alw 108 108 q fun a s => ?_
    exact ⟨m2, Nat.lt_succ_self _, ⟨(out_26), (a0 + 1), (A27), (i0), (g0), hg, (s.sb q q q)⟩⟩
   replace hg := br_f hg p0
   apply wp_exit
   refine p_then ?_
   refine p_then ?_
   refine p_in ?_
   refine p_inN ?_
   apply pN
   replace s := s.al 106 108 q
   replace s := s.pk [(700105, 700107)] (by decide)
   exact ⟨(out_26), (A27), (i0), (g0), hg, (s.sb q q q)⟩
  clear s a; rintro a w ⟨out_11, A12, l0, m0, hg, s⟩
  subst X0
  refine S s<|lw<|mw q<|yw q (y_addN (i := c0) (j := 1) · q q (in64.2 (by omega)))<|aw q<|nw<|alw 103 106 q fun a s => ?_
  replace s := s.pk [(700102, 700105)] (by decide)
  exact ⟨m1, Nat.lt_succ_self _, ⟨(out_11), (c0 + 1), (A12), (l0), (m0), hg, (s.sb q q q)⟩⟩
 replace hg := br_f hg r0
 apply wp_exit
 refine p_then ?_
 refine p_then ?_
 refine p_in ?_
 refine S s<|pw<|vw<|mw q<|aw q<|nw fun a s => ?_
 apply wp_ret
 obtain rfl := si hg
 refine fin1 (fn := Tryz.f21) s q (r_tmp s q) ?_
 exact ⟨(A4), (c5), q, (s.rowOut (R := Rep.str) (kk := 700102) q q (s.ft 103 q))⟩
theorem c_r22_cyclic (n : Nat) (M : Bs) (w0 : World) (hM : bM M w0) (l_ : (List Module)) (b0 : OA) (c0 : Nat) (O0 : sR RModule M w0 b0 c0 l_) (name_ : (List UInt8)) (j1 : (name_).length ≤ 9223372036854775807) (r : Bool) (hg : r22_cyclic n l_ name_ = some r) :
    CA Tryz.prog 29 [sl b0 l_ c0, vT name_] w0 (fun v w => v = .bool (r)) := by
 unfold r22_cyclic at hg
 refine enter M noB func29 q q hM ?_
 intro a s
 obtain ⟨r1, Z0, hg⟩ := zB hg
 obtain ⟨x5, z0, hg⟩ := zB hg
 refine S s<|esw 101 O0<|vw<|aw q<|nw<|sw<|lw<|mw q<|mw q<|mw q fun a s => ?_
 refine lV s q func28 (c_r22_find n _ _ s.lt _ _ _ (s.ft 101 q) _ (by omega) _ Z0) fun a w hK s => ?_
 obtain ⟨n1, H0, J0, L0, e1, F0, D0⟩ := SlR.elemX (s.ft 101 q) (ix_some z0).1
 refine qq s q (y_elem (sz := 10) (i := ((r1).toNat)) s q q u22 q H0 (ix_some z0).2.1 (lt_of_get (ix_some z0).1)) fun a s => ?_
 obtain ⟨e0, o0, g0, p0, h0, q0, i0, r0, j0, s0, k0, t0, l0, u0, m0, v0, d0, n0, rfl, k1, Q0, R0, S0, T0, U0, V0, X0, Y0, P0⟩ := RModule.open F0
 refine S s<|nsw 111 Q0<|nsw 112 R0<|nsw 113 S0<|nsw 114 T0<|nsw 115 U0<|nsw 116 V0<|nsw 117 X0<|nsw 118 Y0<|nsw 119 P0<|yw q (y_ldp · q J0 L0 (by simpa using D0) u38 q q) fun a s => ?_
 refine l_seq q (l_alloc (zs := [vT ([]), nS, nS, nS, nS, nS, nS, nS, nS, nS]) s 1106 q q q q fun B0 a w hb hK s => ?_)
 refine l_seq q (l_store (n := 10) (cs' := [vT x5.Name, sl e0 x5.Imports o0, sl g0 x5.Types p0, sl h0 x5.Templates q0, sl i0 x5.Entries r0, sl j0 x5.LexRules s0, sl k0 x5.Rules t0, sl l0 x5.Roots u0, sl m0 x5.Checks v0, sl d0 x5.Drops n0]) s 1106 q q q q q q q q ?_); clear s; intro w hK s; clear hK
 refine S s<|nw<|sw<|vw<|aw q<|nw<|bw fun a s => ?_
 refine c_loop (σ := Nat) (fun m1 a w => ∃ (a0 : Nat), r22_cyclic_L0 n l_ name_ x5 m1 a0 = some r ∧ St (cx f29 M w0) [(0, sl b0 l_ c0), (1, vT name_), (5, vP B0 0), (6, vI (((a0 : Nat) : Int)))] [(1106, Ob.box B0 [vT x5.Name, sl e0 x5.Imports o0, sl g0 x5.Types p0, sl h0 x5.Templates q0, sl i0 x5.Entries r0, sl j0 x5.LexRules s0, sl k0 x5.Rules t0, sl l0 x5.Roots u0, sl m0 x5.Checks v0, sl d0 x5.Drops n0] 38)] [(101, sF RModule b0 c0 l_), (111, sF Rep.str e0 o0 x5.Imports), (112, sF RTypeDecl g0 p0 x5.Types), (113, sF RDef h0 q0 x5.Templates), (114, sF REntryDecl i0 r0 x5.Entries), (115, sF RLexDecl j0 s0 x5.LexRules), (116, sF RDef k0 t0 x5.Rules), (117, sF RDef l0 u0 x5.Roots), (118, sF (Rep.list Rep.str) m0 v0 x5.Checks), (119, sF Rep.str d0 n0 x5.Drops)] a w) (fun m1 => m1) n ⟨(0), hg, (s.sb q q q)⟩ ?_
 clear s a; rintro m1 a w ⟨a0, hg, s⟩
 rcases m1 with _ | m1
 ·rw [r22_cyclic_L0] at hg; cases hg
 rw [r22_cyclic_L0] at hg
 refine S s<|sw<|vw<|mw q<|yw q (bF 1 · u38 q)<|yw q (lB 1106 · u25 q)<|yw q (lS · q u25)<|yw q (y_lssN (i := a0) (j := ((x5.Imports).length)) · q q)<|nw fun a s => c_dec s q (fun x0 => ?_) (fun x0 => ?_)
 ·replace hg := br_t hg x0
  have i1 := SlR.mx (s.ft 111 q)
  obtain ⟨t1, C0, hg⟩ := zB hg
  obtain ⟨p1, a1, hg⟩ := zB hg
  obtain ⟨q1, b1, hg⟩ := zB hg
  refine S s<|kw<|pw<|sw<|bw<|sw<|lw<|mw q<|yw q (bF 1 · u38 q)<|yw q (lB 1106 · u25 q)<|mw q fun a s => ?_
  obtain ⟨o1, I0, K0, M0, g1, G0, E0⟩ := SlR.elemX (s.ft 111 q) C0
  refine qq s q (eL 1 a0 s u25 I0 (lt_of_get C0) q) fun a s => ?_
  obtain ⟨rfl, l1⟩ := G0
  refine qq s q (lP s K0 M0 (E0 0 _ q) u9 q) fun a s => ?_
  refine lC s q func21 (c_r22_Needs n _ _ s.lt _ _ _ (s.ft 101 q) _ (by omega) _ a1) fun s1 a w hK hp s => ?_
  obtain ⟨d1, h1, rfl, c1⟩ := hp
  refine S s<|nsw 121 c1<|mw q fun a s => ?_
  refine lV s q func47 (c_r22_has n _ _ s.lt _ _ _ (s.ft 121 q) _ (by omega) _ b1) fun a w hK s => ?_
  apply wN
  refine c_cond s q (fun y0 => ?_) (fun y0 => ?_)
  ·replace hg := br_t hg y0
   refine S s<|vw<|aw q<|nw fun a s => ?_
   apply wp_ret
   refine p_inR ?_
   refine p_thenR ?_
   refine p_thenR ?_
   refine p_inR ?_
   refine p_thenR ?_
   obtain rfl := si hg
   exact fT f29 s q q q
  replace hg := br_n hg y0
  apply wp_skip
  refine p_inN ?_
  refine S s<|pw<|lw<|mw q<|yw q (y_addN (i := a0) (j := 1) · q q (in64.2 (by omega)))<|aw q<|nw fun a s => ?_
  exact ⟨m1, Nat.lt_succ_self _, ⟨(a0 + 1), hg, (s.sb q q q)⟩⟩
 replace hg := br_f hg x0
 apply wp_exit
 refine p_then ?_
 refine p_then ?_
 refine p_in ?_
 refine S s<|pw<|vw<|aw q<|nw fun a s => ?_
 apply wp_ret
 obtain rfl := si hg
 exact fT f29 s q q q
theorem c_r22_visit (n : Nat) : ∀ (M : Bs) (w0 : World) (hM : bM M w0) (C : Bs) (l_ : (List Module)) (c0 : OA) (e0 : Nat) (name_ : (List UInt8)) (y1 : (name_).length ≤ 9223372036854775807) (out_ : (List (List UInt8))) (d0 : OA) (g0 : Nat) (i0 : List Value) (hW : Wd ⟨0, M, C, w0⟩ [(9200000, Ob.row (d0) ((out_).length) (g0) 9 1 (i0))] [(9300000, rdF Rep.str (i0) (out_)), (9400000, slF RModule (c0) ((l_).length) (e0) (l_))] w0) (r : (List (List UInt8))) (hg : r22_visit n l_ name_ out_ = some r),
    Calls Tryz.prog 30 [sl c0 l_ e0, vT name_, sl d0 out_ g0].toArray w0 (Ret C w0 fun v w => ∃ (Ao : OA), ∃ (co : Nat), ∃ (cso : List Value), v = sl Ao r co ∧ (Wd ⟨0, M, C, w0⟩ [(9200000, Ob.row (Ao) ((r).length) (co) 9 1 (cso))] [(9300000, rdF Rep.str (cso) (r))] w)) := by
 induction n with
 | zero => intros; rename_i hg; rw [r22_visit] at hg; cases hg
 | succ n c_self =>
 intro M w0 hM C l_ c0 e0 name_ y1 out_ d0 g0 i0 hW r hg
 rw [r22_visit] at hg
 refine enterL M C func30 q q hW ?_
 intro a s
 obtain ⟨r1, u1, hg⟩ := zB hg
 refine S s<|vw<|aw q<|nw<|sw<|sw<|lw<|mw q<|mw q fun a s => ?_
 have hT := s
 replace hT := hT.fz (R := Rep.str) (kk := 9200000) [] 103 q q (hT.ft 9300000 q) q
 refine lV s q func47 (c_r22_has n _ _ hT.lt _ _ _ (hT.ft 103 q) _ (by omega) _ u1) fun a w hK s => ?_
 apply wN
 refine c_cond s q (fun I0 => ?_) (fun I0 => ?_)
 ·replace hg := br_t hg I0
  refine S s<|vw<|mw q<|aw q<|nw fun a s => ?_
  apply wp_ret
  refine p_thenR ?_
  replace s := s.al 9300000 9300000 q
  obtain rfl := si hg
  refine fin1 (fn := Tryz.f30) s q (r_tmp s q) ?_
  exact ⟨(d0), (g0), (i0), q, ((s.ren [(9200000, Ob.row (d0) ((out_).length) (g0) 9 1 (i0))] [9200000] ⟨q, trivial⟩ (by decide)).outL ⟨q, trivial⟩ ⟨q, trivial⟩)⟩
 replace hg := br_n hg I0
 obtain ⟨r7, w1, hg⟩ := zB hg
 obtain ⟨a0, J0, hg⟩ := zB hg
 refine S s<|kw<|pw<|sw<|lw<|mw q<|mw q<|mw q fun a s => ?_
 refine lV s q func28 (c_r22_find n _ _ s.lt _ _ _ (s.ft 9400000 q) _ (by omega) _ w1) fun a w hK s => ?_
 obtain ⟨H1, b1, e1, h1, C1, Z0, X0⟩ := SlR.elemX (s.ft 9400000 q) (ix_some J0).1
 refine qq s q (y_elem (sz := 10) (i := ((r7).toNat)) s q q u22 q b1 (ix_some J0).2.1 (lt_of_get (ix_some J0).1)) fun a s => ?_
 obtain ⟨m0, v0, n0, x0, o0, y0, p0, z0, q0, B0, r0, C0, s0, D0, t0, E0, l0, u0, rfl, F1, k1, l1, n1, o1, p1, q1, s1, t1, j1⟩ := RModule.open Z0
 refine S s<|nsw 113 k1<|nsw 114 l1<|nsw 115 n1<|nsw 116 o1<|nsw 117 p1<|nsw 118 q1<|nsw 119 s1<|nsw 120 t1<|nsw 121 j1<|yw q (y_ldp · q e1 h1 (by simpa using X0) u38 q q) fun a s => ?_
 refine l_seq q (l_alloc (zs := [vT ([]), nS, nS, nS, nS, nS, nS, nS, nS, nS]) s 1306 q q q q fun F0 a w hb hK s => ?_)
 refine l_seq q (l_store (n := 10) (cs' := [vT a0.Name, sl m0 a0.Imports v0, sl n0 a0.Types x0, sl o0 a0.Templates y0, sl p0 a0.Entries z0, sl q0 a0.LexRules B0, sl r0 a0.Rules C0, sl s0 a0.Roots D0, sl t0 a0.Checks E0, sl l0 a0.Drops u0]) s 1306 q q q q q q q q ?_); clear s; intro w hK s; clear hK
 refine S s<|nw<|sw<|vw<|aw q<|nw fun a s => ?_
 obtain ⟨T0, hg, d1⟩ := zJ hg
 refine c_post (fun a w => ∃ (out_20 : (List (List UInt8))) (A21 : OA) (G0 : Nat) (h0 : List Value), T0 out_20 = some r ∧ St (⟨Tryz.f30.ntmps, M, C, w0⟩ : Ctx) [(1, vT name_), (2, sl A21 out_20 G0)] [(700122, Ob.row (A21) ((out_20).length) (G0) 9 1 (h0))] [(123, rdF Rep.str (h0) (out_20))] a w) ?_ ?_
 ·apply wp_block
  replace s := s.al 125 9300000 q
  replace s := s.pk [(1306, 1306), (700124, 9200000)] (by decide)
  refine c_loop (σ := Nat) (fun m1 a w => ∃ (out_24 : (List (List UInt8))) (b0 : Nat) (A25 : OA) (j0 : Nat) (k0 : List Value), r22_visit_L0 n l_ (r22_visit n) a0 T0 m1 out_24 b0 = some r ∧ St (⟨Tryz.f30.ntmps, M, C, w0⟩ : Ctx) [(0, sl c0 l_ e0), (1, vT name_), (2, sl A25 out_24 j0), (7, vP F0 0), (8, vI (((b0 : Nat) : Int)))] [(1306, Ob.box F0 [vT a0.Name, sl m0 a0.Imports v0, sl n0 a0.Types x0, sl o0 a0.Templates y0, sl p0 a0.Entries z0, sl q0 a0.LexRules B0, sl r0 a0.Rules C0, sl s0 a0.Roots D0, sl t0 a0.Checks E0, sl l0 a0.Drops u0] 38), (700124, Ob.row (A25) ((out_24).length) (j0) 9 1 (k0))] [(113, sF Rep.str m0 v0 a0.Imports), (114, sF RTypeDecl n0 x0 a0.Types), (115, sF RDef o0 y0 a0.Templates), (116, sF REntryDecl p0 z0 a0.Entries), (117, sF RLexDecl q0 B0 a0.LexRules), (118, sF RDef r0 C0 a0.Rules), (119, sF RDef s0 D0 a0.Roots), (120, sF (Rep.list Rep.str) t0 E0 a0.Checks), (121, sF Rep.str l0 u0 a0.Drops), (125, rdF Rep.str (k0) (out_24)), (9400000, sF RModule c0 e0 l_)] a w) (fun m1 => m1) n ⟨(out_), (0), (d0), (g0), (i0), hg, (s.sb q q q)⟩ ?_
  clear s a; rintro m1 a w ⟨out_24, b0, A25, j0, k0, hg, s⟩
  rcases m1 with _ | m1
  ·rw [r22_visit_L0] at hg; cases hg
  rw [r22_visit_L0] at hg
  refine S s<|sw<|vw<|mw q<|yw q (bF 1 · u38 q)<|yw q (lB 1306 · u25 q)<|yw q (lS · q u25)<|yw q (y_lssN (i := b0) (j := ((a0.Imports).length)) · q q)<|nw fun a s => c_dec s q (fun H0 => ?_) (fun H0 => ?_)
  ·replace hg := br_t hg H0
   have E1 := SlR.mx (s.ft 113 q)
   obtain ⟨z1, S0, hg⟩ := zB hg
   obtain ⟨K0, v1, hg⟩ := zB hg
   refine S s<|kw<|pw<|sw<|bw<|lw<|mw q<|yw q (bF 1 · u38 q)<|yw q (lB 1306 · u25 q)<|mw q fun a s => ?_
   obtain ⟨I1, c1, g1, i1, D1, a1, Y0⟩ := SlR.elemX (s.ft 113 q) S0
   refine qq s q (eL 1 b0 s u25 c1 (lt_of_get S0) q) fun a s => ?_
   obtain ⟨rfl, G1⟩ := a1
   refine S s<|yw q (lP · g1 i1 (Y0 0 _ q) u9 q)<|mw q fun a s => ?_
   have hT := s.pk [(1306, 1306), (9200000, 700124)] (by decide)
   replace hT := hT.al 9300000 125 q
   replace hT := hT.al 9400000 9400000 q
   refine l_seq q (l_callMut (cap := []) hT _ [] (sbA (by rfl)) trivial (by rfl) q func30 q (by kernel_rfl) q q (c_self _ _ (hT.restLt [1306]) _ l_ (c0) (e0) z1 (by omega) out_24 (A25) (j0) (k0) (hT.wd.lendL _ _ _ (sbA (by rfl)) (keep_sub [1306]) (by rfl) (sbA (by rfl))) K0 v1) ?_); intro J1 a' w' hK hp hF
   obtain ⟨Aou40, M0, P0, rfl, Q0⟩ := hp
   have U0 := St.mk hF (hT.wd.back (sbA (by rfl)) (keep_sub [1306]) (by rfl) Q0 (by rfl))
   clear s hT hF Q0 hK; revert U0; revert w'; revert a'; intro a w s
   replace s := s.al 127 9300000 q
   replace s := s.ren [(1306, Ob.box F0 [vT a0.Name, sl m0 a0.Imports v0, sl n0 a0.Types x0, sl o0 a0.Templates y0, sl p0 a0.Entries z0, sl q0 a0.LexRules B0, sl r0 a0.Rules C0, sl s0 a0.Roots D0, sl t0 a0.Checks E0, sl l0 a0.Drops u0] 38), (700124, Ob.row (Aou40) ((K0).length) (M0) 9 1 (P0))] [1306, 9200000] ⟨q, q, trivial⟩ (by decide)
   refine asg s q q fun a s => ?_
   apply wO
   refine p_inN ?_
   refine S s<|pw<|lw<|mw q<|yw q (y_addN (i := b0) (j := 1) · q q (in64.2 (by omega)))<|aw q<|nw<|alw 125 127 q fun a s => ?_
   exact ⟨m1, Nat.lt_succ_self _, ⟨(K0), (b0 + 1), (Aou40), (M0), (P0), hg, (s.sb q q q)⟩⟩
  replace hg := br_f hg H0
  apply wp_exit
  refine p_then ?_
  refine p_then ?_
  refine p_in ?_
  apply pN
  replace s := s.al 123 125 q
  replace s := s.pk [(1306, 1306), (700122, 700124)] (by decide)
  exact ⟨(out_24), (A25), (j0), (k0), hg, (s.sb q q q)⟩
 clear s a; rintro a w ⟨out_20, A21, G0, h0, hg, s⟩
 subst d1
 obtain ⟨R0, hg⟩ := zC hg
 refine S s<|sw<|lw<|mw q<|mw q fun a s => ?_
 refine l_seq q (l_buildDense (sz := 1) s 1802 q q q u25 q q q q q q q fun B1 a w V0 hK s => ?_)
 clear V0
 replace s := s.add 130 (rdF Rep.str (cellsOfL [vT name_]) ([name_])) (RdAll.cons (by exact ⟨q, (by omega)⟩) (rN))
 have x1 := row_src (s.wd.holds 1802 _ q) (RdAll.one (s.ft 130 q))
 refine l_seq q (l_append (sz := 1) (by_ := 16) (N := (out_20 ++ [name_]).length) s 700122 q q q u25 q q q q q x1 (by rw [List.length_append]; try rfl) q (rmA R0 q) (rmB R0) q fun L0 O0 a w hA hK s => ?_)
 replace s := s.add 131 (rdF Rep.str (h0 ++ (cellsOfL [vT name_])) (out_20 ++ [name_])) (RdAll.append (s.ft 123 q) (s.ft 130 q))
 refine S s<|aw q<|nw fun a s => ?_
 apply wp_ret
 replace s := s.al 9300000 131 q
 obtain rfl := si hg
 refine fin1 (fn := Tryz.f30) s q (r_tmp s q) ?_
 exact ⟨(L0), (O0), (h0 ++ (cellsOfL [vT name_])), q, ((s.ren [(9200000, Ob.row (L0) ((out_20 ++ [name_]).length) (O0) 9 1 (h0 ++ (cellsOfL [vT name_])))] [700122] ⟨q, trivial⟩ (by decide)).outL ⟨q, trivial⟩ ⟨q, trivial⟩)⟩
end Go.Proofs.YtbhjplflnkidgaaGreat
