/- Chapter 22: the walk of ModuleOrder -/
import Derived.Test.YtbhjplflnkidgaaGreatAU
import Derived.Test.YtbhjplflnkidgaaGreatWEx
import Derived.Test.YtbhjplflnkidgaaGreatWSMod
namespace Go.Proofs.YtbhjplflnkidgaaGreat
open Go.Gl Go.RowKit Tryz
set_option linter.unusedVariables false
set_option linter.unusedSimpArgs false
set_option maxRecDepth 4000

set_option maxHeartbeats 1000000 in
theorem c_law22_ModuleOrder (n : Nat) (M : Bs) (w0 : World) (hM : ∀ b, M b → b < w0.heap.size) (t_ : (List Module)) (d0 : Option Addr) (e0 : Nat) (h4 : sR RModule M w0 d0 e0 t_) (t_' : (List UInt8)) (g6 : (t_').length ≤ 9223372036854775807) (t_'' : UInt8) (r : Bool) (hg : law22_ModuleOrder n t_ t_' t_'' = some r) :
    Calls Tryz.prog 6 [sl d0 t_ e0, vT t_', .int .u8 (((t_''.toNat : Nat) : Int))].toArray w0 (Ret noB w0 fun v w => v = .bool (r)) := by
 unfold law22_ModuleOrder at hg
 refine enter M noB func6 q q hM ?_
 intro a s
 refine S s<|esw 101 h4<|vw<|aw q<|nw<|sw<|sw fun a s => ?_
 obtain ⟨k1, hg, S3⟩ := jn_some hg
 refine c_post (fun a w => ∃ (j2 : Bool), k1 j2 = some r ∧ St (cx f6 M w0) [(0, sl d0 t_ e0), (1, vT (t_')), (2, .int .u8 (((t_''.toNat : Nat) : Int))), (28, .bool (j2))] [] [(101, sF RModule d0 e0 t_)] a w) ?_ ?_
 ·obtain ⟨r3, O2, hg⟩ := bind_some hg
  rcases Bool.eq_false_or_eq_true (!(r3)) with P1 | P1
  ·replace hg := br_t hg P1
   refine S s<|lw<|mw q fun a s => ?_
   refine lV s q func10 (c_law22_light n _ _ s.lt _ _ _ (s.ft 101 q) _ O2) fun a w hK s => ?_
   refine S s<|yw q (fun s => yl_b (y_not s q) P1)<|mw q<|gw q<|gw q<|gw q<|tw_ q<|nw fun a s => ?_
   exact ⟨(true), hg, (s.sb q q q)⟩
  replace hg := br_n hg P1
  refine S s<|lw<|mw q fun a s => ?_
  refine lV s q func10 (c_law22_light n _ _ s.lt _ _ _ (s.ft 101 q) _ O2) fun a w hK s => ?_
  refine S s<|yw q (fun s => yl_b (y_not s q) P1)<|mw q<|hw q<|zw q (lS · q u22)<|zw q (y_eqlN (i := ((t_).length)) (j := 0) · q q)<|fw q<|nw fun a s => ?_
  exact ⟨(decide (((t_).length) = 0)), hg, (s.sb q q q)⟩
 clear s a; rintro a w ⟨j2, hg, s⟩
 subst S3
 refine c_cond s q (fun X1 => ?_) (fun X1 => ?_)
 ·replace hg := br_t hg X1
  obtain ⟨q6, M4, hg⟩ := bind_some hg
  apply wQ
  apply wL
  refine lV s q func11 (c_law22_exampleHolds n _ _ s.lt  _ M4) fun a w hK s => ?_
  refine S s<|aw q<|nw fun a s => ?_
  apply wp_ret
  refine p_thenR ?_
  obtain rfl := si hg
  exact fin1 (fn := Tryz.f6) s q (r_tmp s q) q
 replace hg := br_n hg X1
 refine S s<|kw<|pw<|vw<|aw q<|nw<|sw<|vw<|mw q<|yw q (lS · q u22)<|aw q<|nw fun a s => ?_
 obtain ⟨U2, hg, V3⟩ := jn_some hg
 refine c_post (fun a w => ∃ (j0 : (List Module)) (A19 : Option Addr) (F0 : Nat) (U0 : List Value), U2 j0 = some r ∧ St (cx f6 M w0) [(0, sl d0 t_ e0), (1, vT (t_')), (2, .int .u8 (((t_''.toNat : Nat) : Int))), (7, sl A19 j0 F0)] [(700102, Ob.row (A19) ((j0).length) (F0) 38 10 (U0))] [(101, sF RModule d0 e0 t_), (103, rdF RModule (U0) (j0))] a w) ?_ ?_
 ·apply wp_block
  replace s := s.nilRow 700104 38 10 q
  replace s := s.add 105 (rdF RModule [] []) (rN)
  refine c_loop (σ := Nat) (fun m1 a w => ∃ (g1 : (List Module)) (Q1 : Int) (A23 : Option Addr) (T1 : Nat) (G1 : List Value), law22_ModuleOrder_L0 n t_ U2 m1 g1 Q1 = some r ∧ St (cx f6 M w0) [(0, sl d0 t_ e0), (1, vT (t_')), (2, .int .u8 (((t_''.toNat : Nat) : Int))), (7, sl A23 g1 T1), (8, vI Q1)] [(700104, Ob.row (A23) ((g1).length) (T1) 38 10 (G1))] [(101, sF RModule d0 e0 t_), (105, rdF RModule (G1) (g1))] a w) (fun m1 => m1) n ⟨([]), ((((t_).length : Nat) : Int)), (none), (0), ([]), hg, (s.sb q q q)⟩ ?_
  clear s a; rintro m1 a w ⟨g1, Q1, A23, T1, G1, hg, s⟩
  rcases m1 with _ | m1
  ·rw [law22_ModuleOrder_L0] at hg; cases hg
  rw [law22_ModuleOrder_L0] at hg
  refine S s<|sw<|vw<|mw q<|yw q (y_gtr · q q)<|nw fun a s => c_dec s q (fun a2 => ?_) (fun a2 => ?_)
  ·replace hg := br_t hg a2
   obtain ⟨K2, hg⟩ := chk_some hg
   obtain ⟨g0, g2, hg⟩ := bind_some hg
   obtain ⟨L2, hg⟩ := chk_some hg
   refine S s<|kw<|pw<|sw<|bw<|lw<|mw q<|mw q<|mw q<|yw q (y_sub · q q (in64.2 K2)) fun a s => ?_
   obtain ⟨p6, J3, Z3, c4, U5, G3, D3⟩ := SlR.elemX (s.ft 101 q) (ix_some g2).1
   refine qq s q (y_elem (sz := 10) (i := ((Q1 - 1).toNat)) s q q u22 q J3 (ix_some g2).2.1 (lt_of_get (ix_some g2).1)) fun a s => ?_
   obtain ⟨l2, w2, n2, x2, o2, y2, p2, z2, q2, B2, r2, C2, s2, D2, t2, E2, k2, v2, rfl, h6, j4, k4, l4, m4, n4, o4, p4, q4, i4⟩ := RModule.open G3
   refine S s<|nsw 117 j4<|nsw 118 k4<|nsw 119 l4<|nsw 120 m4<|nsw 121 n4<|nsw 122 o4<|nsw 123 p4<|nsw 124 q4<|nsw 125 i4<|yw q (y_ldp · q Z3 c4 (by simpa using D3) u38 q q) fun a s => ?_
   refine l_seq q (l_buildDense (sz := 10) s 1706 q q q u22 q q q q q q q fun Q5 a w z3 hK s => ?_)
   clear z3
   replace s := s.add 126 (rdF RModule (cellsOfL [.agg #[_, _, _, _, _, _, _, _, _, _]]) ([g0])) (RdAll.cons (by exact (RModule.mk' (x := g0) (by omega) (s.ft 117 q) (s.ft 118 q) (s.ft 119 q) (s.ft 120 q) (s.ft 121 q) (s.ft 122 q) (s.ft 123 q) (s.ft 124 q) (s.ft 125 q))) (rN))
   have X4 := row_src (s.wd.holds 1706 _ q) (RdAll.one (s.ft 126 q))
   refine l_seq q (l_append (sz := 10) (by_ := 232) (N := (g1 ++ [g0]).length) s 700104 q q q u22 q q q q q X4 (by rw [List.length_append]; try rfl) q (rmA L2 q) (rmB L2) q fun Y2 k3 a w hA hK s => ?_)
   replace s := s.add 127 (rdF RModule (G1 ++ (cellsOfL [.agg #[vT g0.Name, sl l2 g0.Imports w2, sl n2 g0.Types x2, sl o2 g0.Templates y2, sl p2 g0.Entries z2, sl q2 g0.LexRules B2, sl r2 g0.Rules C2, sl s2 g0.Roots D2, sl t2 g0.Checks E2, sl k2 g0.Drops v2]])) (g1 ++ [g0])) (RdAll.append (s.ft 105 q) (s.ft 126 q))
   refine asg s q q fun a s => ?_
   apply wO
   refine p_inN ?_
   refine S s<|pw<|lw<|mw q<|yw q (y_sub · q q (in64.2 K2))<|aw q<|nw<|alw 105 127 q fun a s => ?_
   exact ⟨m1, Nat.lt_succ_self _, ⟨(g1 ++ [g0]), (Q1 - 1), (Y2), (k3), (G1 ++ (cellsOfL [.agg #[vT g0.Name, sl l2 g0.Imports w2, sl n2 g0.Types x2, sl o2 g0.Templates y2, sl p2 g0.Entries z2, sl q2 g0.LexRules B2, sl r2 g0.Rules C2, sl s2 g0.Roots D2, sl t2 g0.Checks E2, sl k2 g0.Drops v2]])), hg, (s.sb q q q)⟩⟩
  replace hg := br_f hg a2
  apply wp_exit
  refine p_then ?_
  refine p_then ?_
  refine p_in ?_
  apply pN
  replace s := s.al 103 105 q
  replace s := s.pk [(700102, 700104)] (by decide)
  exact ⟨(g1), (A23), (T1), (G1), hg, (s.sb q q q)⟩
 clear s a; rintro a w ⟨j0, A19, F0, U0, hg, s⟩
 subst V3
 obtain ⟨M2, hg⟩ := chk_some hg
 apply wQ
 apply wL
 refine l_seq q (l_buildEmpty (sz := 10) s 1800 u22 q q q fun R1 a w B3 hK s => ?_)
 clear B3
 refine mv s q q fun a s => ?_
 replace s := s.add 131 (rdF RModule ([]) ([])) (rN)
 obtain ⟨E0, Y4, g4⟩ := SlR.src (s.ft 101 q)
 replace s := s.add 132 (rdF RModule E0 (t_)) g4
 refine l_seq q (l_append (sz := 10) (by_ := 232) (N := (t_).length) (ys := E0) s 1800 q q q u22 q q q q q Y4 (Nat.zero_add _) q (rmC M2 q) (rmD M2) q fun h0 i0 a w hA hK s => ?_)
 obtain ⟨X3, hg⟩ := chk_some hg
 refine S s<|alw 133 132 q<|aw q<|nw<|sw<|lw<|mw q fun a s => ?_
 have w5 := (t_'').toNat_lt
 refine qq s q (y_conv s q u5 u3 (in64.2 (by omega))) fun a s => ?_
 clear w5
 obtain ⟨a0, P2, hg⟩ := bind_some hg
 obtain ⟨b0, U1, hg⟩ := bind_some hg
 refine S s<|mw q<|yw q (lS · q u22)<|yw q (y_remN (i := t_''.toNat) (j := ((t_).length)) · q q X3)<|aw q<|nw<|sw<|lw<|mw q<|mw q<|mw q fun a s => ?_
 obtain ⟨V1, K3, a4, d4, V5, H3, E3⟩ := SlR.elemX (s.ft 101 q) P2
 refine qq s q (y_elem (sz := 10) (i := (t_''.toNat % ((t_).length))) s q q u22 q K3 q (lt_of_get P2)) fun a s => ?_
 obtain ⟨l0, u0, m0, v0, n0, x0, o0, y0, p0, z0, q0, B0, r0, C0, s0, D0, k0, t0, rfl, i6, s4, t4, v4, w4, x4, y4, z4, B4, r4⟩ := RModule.open H3
 refine S s<|nsw 144 s4<|nsw 145 t4<|nsw 146 v4<|nsw 147 w4<|nsw 148 x4<|nsw 149 y4<|nsw 150 z4<|nsw 151 B4<|nsw 152 r4<|yw q (y_ldp · q a4 d4 (by simpa using E3) u38 q q) fun a s => ?_
 obtain ⟨P3, S1, H2⟩ := SlR.row1 (s.wd.holds 1800 _ q) (s.ft 133 q) q q U1
 refine qq s q (y_rowIndex (sz := 10) (i := 0) s q q u22 q H2 q P3) fun a s => ?_
 have hzi := lt_of_get U1
 have hzn := rowN (s.wd.holds 1800 _ q) (s.ft 133 q) q q
 have hzf : 0 * 10 + 10 ≤ ((t_).length) * 10 := by have := Nat.mul_le_mul_right 10 (Nat.succ_le_of_lt hzi); omega
 refine l_seq q (l_storeRow (N := 10) (cs' := splice (E0) (0 * 10) [vT a0.Name, sl l0 a0.Imports u0, sl m0 a0.Types v0, sl n0 a0.Templates x0, sl o0 a0.Entries y0, sl p0 a0.LexRules z0, sl q0 a0.Rules B0, sl r0 a0.Roots C0, sl s0 a0.Checks D0, sl k0 a0.Drops t0]) s 1800 q q q H2 q q hzf q q ?_); clear s; intro w hK s; clear hK
 replace s := s.sub (l' := [(0, .slice (d0) ((t_).length) (e0)), (1, .string (bs (t_'))), (2, .int .u8 (((t_''.toNat : Nat) : Int))), (7, .slice (A19) ((j0).length) (F0)), (9, .slice (h0) ((t_).length) (i0)), (10, .int .i64 (((t_''.toNat % ((t_).length) : Nat) : Int))), (44, .slice (some ⟨R1, 0, none⟩) (0) (0)), (45, .slice (d0) ((t_).length) (e0)), (46, .slice (h0) ((t_).length) (i0)), (47, .int .u8 (((t_''.toNat : Nat) : Int))), (48, .int .i64 (((t_''.toNat : Nat) : Int))), (49, .slice (d0) ((t_).length) (e0)), (50, .int .i64 ((((t_).length : Nat) : Int))), (51, .int .i64 (((t_''.toNat % ((t_).length) : Nat) : Int))), (52, .slice (h0) ((t_).length) (i0)), (53, .slice (d0) ((t_).length) (e0)), (54, .int .i64 (((t_''.toNat % ((t_).length) : Nat) : Int))), (55, .pointer (some (V1.add 0))), (56, .agg #[.string (bs (a0.Name)), .slice (l0) ((a0.Imports).length) (u0), .slice (m0) ((a0.Types).length) (v0), .slice (n0) ((a0.Templates).length) (x0), .slice (o0) ((a0.Entries).length) (y0), .slice (p0) ((a0.LexRules).length) (z0), .slice (q0) ((a0.Rules).length) (B0), .slice (r0) ((a0.Roots).length) (C0), .slice (s0) ((a0.Checks).length) (D0), .slice (k0) ((a0.Drops).length) (t0)]), (57, .pointer (some ⟨S1, 0 * 10, none⟩))]) (L' := [(1800, Ob.row (h0) ((t_).length) (i0) 38 10 (splice (E0) (0 * 10) [.string (bs (a0.Name)), .slice (l0) ((a0.Imports).length) (u0), .slice (m0) ((a0.Types).length) (v0), .slice (n0) ((a0.Templates).length) (x0), .slice (o0) ((a0.Entries).length) (y0), .slice (p0) ((a0.LexRules).length) (z0), .slice (q0) ((a0.Rules).length) (B0), .slice (r0) ((a0.Roots).length) (C0), .slice (s0) ((a0.Checks).length) (D0), .slice (k0) ((a0.Drops).length) (t0)])), (700102, Ob.row (A19) ((j0).length) (F0) 38 10 (U0))]) (D' := [(101, slF RModule (d0) ((t_).length) (e0) (t_)), (103, rdF RModule (U0) (j0)), (131, rdF RModule ([]) ([])), (132, rdF RModule (E0) (t_)), (133, rdF RModule (E0) (t_)), (144, slF Rep.str (l0) ((a0.Imports).length) (u0) (a0.Imports)), (145, slF RTypeDecl (m0) ((a0.Types).length) (v0) (a0.Types)), (146, slF RDef (n0) ((a0.Templates).length) (x0) (a0.Templates)), (147, slF REntryDecl (o0) ((a0.Entries).length) (y0) (a0.Entries)), (148, slF RLexDecl (p0) ((a0.LexRules).length) (z0) (a0.LexRules)), (149, slF RDef (q0) ((a0.Rules).length) (B0) (a0.Rules)), (150, slF RDef (r0) ((a0.Roots).length) (C0) (a0.Roots)), (151, slF (Rep.list Rep.str) (s0) ((a0.Checks).length) (D0) (a0.Checks)), (152, slF Rep.str (k0) ((a0.Drops).length) (t0) (a0.Drops))]) ⟨q, q, q, q, q, q, q, q, q, q, q, q, q, q, q, q, q, q, q, q, trivial⟩ ⟨q, q, trivial⟩ ⟨q, q, q, q, q, q, q, q, q, q, q, q, q, q, trivial⟩
 replace s := s.eqs (l' := [(0, .slice (d0) ((t_).length) (e0)), (1, .string (bs (t_'))), (2, .int .u8 (((t_''.toNat : Nat) : Int))), (7, .slice (A19) ((j0).length) (F0)), (9, .slice (h0) (((t_).set 0 a0).length) (i0)), (10, .int .i64 (((t_''.toNat % ((t_).length) : Nat) : Int))), (44, .slice (some ⟨R1, 0, none⟩) (0) (0)), (45, .slice (d0) ((t_).length) (e0)), (46, .slice (h0) (((t_).set 0 a0).length) (i0)), (47, .int .u8 (((t_''.toNat : Nat) : Int))), (48, .int .i64 (((t_''.toNat : Nat) : Int))), (49, .slice (d0) ((t_).length) (e0)), (50, .int .i64 ((((t_).length : Nat) : Int))), (51, .int .i64 (((t_''.toNat % ((t_).length) : Nat) : Int))), (52, .slice (h0) (((t_).set 0 a0).length) (i0)), (53, .slice (d0) ((t_).length) (e0)), (54, .int .i64 (((t_''.toNat % ((t_).length) : Nat) : Int))), (55, .pointer (some (V1.add 0))), (56, .agg #[.string (bs (a0.Name)), .slice (l0) ((a0.Imports).length) (u0), .slice (m0) ((a0.Types).length) (v0), .slice (n0) ((a0.Templates).length) (x0), .slice (o0) ((a0.Entries).length) (y0), .slice (p0) ((a0.LexRules).length) (z0), .slice (q0) ((a0.Rules).length) (B0), .slice (r0) ((a0.Roots).length) (C0), .slice (s0) ((a0.Checks).length) (D0), .slice (k0) ((a0.Drops).length) (t0)]), (57, .pointer (some ⟨S1, 0 * 10, none⟩))]) (L' := [(1800, Ob.row (h0) (((t_).set 0 a0).length) (i0) 38 10 (splice (E0) (0 * 10) [.string (bs (a0.Name)), .slice (l0) ((a0.Imports).length) (u0), .slice (m0) ((a0.Types).length) (v0), .slice (n0) ((a0.Templates).length) (x0), .slice (o0) ((a0.Entries).length) (y0), .slice (p0) ((a0.LexRules).length) (z0), .slice (q0) ((a0.Rules).length) (B0), .slice (r0) ((a0.Roots).length) (C0), .slice (s0) ((a0.Checks).length) (D0), .slice (k0) ((a0.Drops).length) (t0)])), (700102, Ob.row (A19) ((j0).length) (F0) 38 10 (U0))]) (by simp only [List.length_set]) (by simp only [List.length_set])
 replace s := s.add 153 (rdF RModule (splice (E0) (0 * 10) [vT a0.Name, sl l0 a0.Imports u0, sl m0 a0.Types v0, sl n0 a0.Templates x0, sl o0 a0.Entries y0, sl p0 a0.LexRules z0, sl q0 a0.Rules B0, sl r0 a0.Roots C0, sl s0 a0.Checks D0, sl k0 a0.Drops t0]) ((t_).set 0 a0)) (RdAll.put (s.ft 133 q) (RModule.mk' (x := a0) (by omega) (s.ft 144 q) (s.ft 145 q) (s.ft 146 q) (s.ft 147 q) (s.ft 148 q) (s.ft 149 q) (s.ft 150 q) (s.ft 151 q) (s.ft 152 q)) hzi)
 obtain ⟨C6, Q2, hg⟩ := bind_some hg
 refine S s<|nw<|sw<|lw<|mw q<|mw q<|mw q fun a s => ?_
 obtain ⟨X2, L3, b4, e4, X5, I3, F3⟩ := SlR.elemX (s.ft 101 q) U1
 refine qq s q (eL 10 0 s u22 L3 (lt_of_get U1) q) fun a s => ?_
 obtain ⟨i1, v1, j1, w1, l1, x1, n1, y1, o1, z1, p1, B1, q1, C1, r1, D1, h1, u1, rfl, j6, D4, E4, F4, G4, H4, I4, J4, K4, C4⟩ := RModule.open I3
 refine S s<|nsw 164 D4<|nsw 165 E4<|nsw 166 F4<|nsw 167 G4<|nsw 168 H4<|nsw 169 I4<|nsw 170 J4<|nsw 171 K4<|nsw 172 C4<|yw q (y_ldp · q b4 e4 (by simpa using F3) u38 q q) fun a s => ?_
 obtain ⟨Q3, u2, I2⟩ := SlR.row1 (s.wd.holds 1800 _ q) (s.ft 153 q) q q Q2
 refine qq s q (y_rowIndex (sz := 10) (i := (t_''.toNat % ((t_).length))) s q q u22 q I2 q Q3) fun a s => ?_
 have hzi := lt_of_get Q2
 have hzn := rowN (s.wd.holds 1800 _ q) (s.ft 153 q) q q
 have hzf : (t_''.toNat % ((t_).length)) * 10 + 10 ≤ (((t_).set 0 a0).length) * 10 := by have := Nat.mul_le_mul_right 10 (Nat.succ_le_of_lt hzi); omega
 refine l_seq q (l_storeRow (N := 10) (cs' := splice (splice (E0) (0 * 10) [vT a0.Name, sl l0 a0.Imports u0, sl m0 a0.Types v0, sl n0 a0.Templates x0, sl o0 a0.Entries y0, sl p0 a0.LexRules z0, sl q0 a0.Rules B0, sl r0 a0.Roots C0, sl s0 a0.Checks D0, sl k0 a0.Drops t0]) ((t_''.toNat % ((t_).length)) * 10) [vT b0.Name, sl i1 b0.Imports v1, sl j1 b0.Types w1, sl l1 b0.Templates x1, sl n1 b0.Entries y1, sl o1 b0.LexRules z1, sl p1 b0.Rules B1, sl q1 b0.Roots C1, sl r1 b0.Checks D1, sl h1 b0.Drops u1]) s 1800 q q q I2 q q hzf q q ?_); clear s; intro w hK s; clear hK
 replace s := s.sub (l' := [(0, .slice (d0) ((t_).length) (e0)), (1, .string (bs (t_'))), (2, .int .u8 (((t_''.toNat : Nat) : Int))), (7, .slice (A19) ((j0).length) (F0)), (9, .slice (h0) (((t_).set 0 a0).length) (i0)), (10, .int .i64 (((t_''.toNat % ((t_).length) : Nat) : Int))), (44, .slice (some ⟨R1, 0, none⟩) (0) (0)), (45, .slice (d0) ((t_).length) (e0)), (46, .slice (h0) (((t_).set 0 a0).length) (i0)), (47, .int .u8 (((t_''.toNat : Nat) : Int))), (48, .int .i64 (((t_''.toNat : Nat) : Int))), (49, .slice (d0) ((t_).length) (e0)), (50, .int .i64 ((((t_).length : Nat) : Int))), (51, .int .i64 (((t_''.toNat % ((t_).length) : Nat) : Int))), (52, .slice (h0) (((t_).set 0 a0).length) (i0)), (53, .slice (d0) ((t_).length) (e0)), (54, .int .i64 (((t_''.toNat % ((t_).length) : Nat) : Int))), (55, .pointer (some (V1.add 0))), (56, .agg #[.string (bs (a0.Name)), .slice (l0) ((a0.Imports).length) (u0), .slice (m0) ((a0.Types).length) (v0), .slice (n0) ((a0.Templates).length) (x0), .slice (o0) ((a0.Entries).length) (y0), .slice (p0) ((a0.LexRules).length) (z0), .slice (q0) ((a0.Rules).length) (B0), .slice (r0) ((a0.Roots).length) (C0), .slice (s0) ((a0.Checks).length) (D0), .slice (k0) ((a0.Drops).length) (t0)]), (57, .pointer (some ⟨S1, 0 * 10, none⟩)), (58, .slice (h0) (((t_).set 0 a0).length) (i0)), (59, .int .i64 (((t_''.toNat % ((t_).length) : Nat) : Int))), (60, .slice (d0) ((t_).length) (e0)), (61, .pointer (some (X2.add 0))), (62, .agg #[.string (bs (b0.Name)), .slice (i1) ((b0.Imports).length) (v1), .slice (j1) ((b0.Types).length) (w1), .slice (l1) ((b0.Templates).length) (x1), .slice (n1) ((b0.Entries).length) (y1), .slice (o1) ((b0.LexRules).length) (z1), .slice (p1) ((b0.Rules).length) (B1), .slice (q1) ((b0.Roots).length) (C1), .slice (r1) ((b0.Checks).length) (D1), .slice (h1) ((b0.Drops).length) (u1)]), (63, .pointer (some ⟨u2, (t_''.toNat % ((t_).length)) * 10, none⟩))]) (L' := [(1800, Ob.row (h0) (((t_).set 0 a0).length) (i0) 38 10 (splice (splice (E0) (0 * 10) [.string (bs (a0.Name)), .slice (l0) ((a0.Imports).length) (u0), .slice (m0) ((a0.Types).length) (v0), .slice (n0) ((a0.Templates).length) (x0), .slice (o0) ((a0.Entries).length) (y0), .slice (p0) ((a0.LexRules).length) (z0), .slice (q0) ((a0.Rules).length) (B0), .slice (r0) ((a0.Roots).length) (C0), .slice (s0) ((a0.Checks).length) (D0), .slice (k0) ((a0.Drops).length) (t0)]) ((t_''.toNat % ((t_).length)) * 10) [.string (bs (b0.Name)), .slice (i1) ((b0.Imports).length) (v1), .slice (j1) ((b0.Types).length) (w1), .slice (l1) ((b0.Templates).length) (x1), .slice (n1) ((b0.Entries).length) (y1), .slice (o1) ((b0.LexRules).length) (z1), .slice (p1) ((b0.Rules).length) (B1), .slice (q1) ((b0.Roots).length) (C1), .slice (r1) ((b0.Checks).length) (D1), .slice (h1) ((b0.Drops).length) (u1)])), (700102, Ob.row (A19) ((j0).length) (F0) 38 10 (U0))]) (D' := [(101, slF RModule (d0) ((t_).length) (e0) (t_)), (103, rdF RModule (U0) (j0)), (131, rdF RModule ([]) ([])), (132, rdF RModule (E0) (t_)), (133, rdF RModule (E0) (t_)), (144, slF Rep.str (l0) ((a0.Imports).length) (u0) (a0.Imports)), (145, slF RTypeDecl (m0) ((a0.Types).length) (v0) (a0.Types)), (146, slF RDef (n0) ((a0.Templates).length) (x0) (a0.Templates)), (147, slF REntryDecl (o0) ((a0.Entries).length) (y0) (a0.Entries)), (148, slF RLexDecl (p0) ((a0.LexRules).length) (z0) (a0.LexRules)), (149, slF RDef (q0) ((a0.Rules).length) (B0) (a0.Rules)), (150, slF RDef (r0) ((a0.Roots).length) (C0) (a0.Roots)), (151, slF (Rep.list Rep.str) (s0) ((a0.Checks).length) (D0) (a0.Checks)), (152, slF Rep.str (k0) ((a0.Drops).length) (t0) (a0.Drops)), (153, rdF RModule (splice (E0) (0 * 10) [.string (bs (a0.Name)), .slice (l0) ((a0.Imports).length) (u0), .slice (m0) ((a0.Types).length) (v0), .slice (n0) ((a0.Templates).length) (x0), .slice (o0) ((a0.Entries).length) (y0), .slice (p0) ((a0.LexRules).length) (z0), .slice (q0) ((a0.Rules).length) (B0), .slice (r0) ((a0.Roots).length) (C0), .slice (s0) ((a0.Checks).length) (D0), .slice (k0) ((a0.Drops).length) (t0)]) ((t_).set 0 a0)), (164, slF Rep.str (i1) ((b0.Imports).length) (v1) (b0.Imports)), (165, slF RTypeDecl (j1) ((b0.Types).length) (w1) (b0.Types)), (166, slF RDef (l1) ((b0.Templates).length) (x1) (b0.Templates)), (167, slF REntryDecl (n1) ((b0.Entries).length) (y1) (b0.Entries)), (168, slF RLexDecl (o1) ((b0.LexRules).length) (z1) (b0.LexRules)), (169, slF RDef (p1) ((b0.Rules).length) (B1) (b0.Rules)), (170, slF RDef (q1) ((b0.Roots).length) (C1) (b0.Roots)), (171, slF (Rep.list Rep.str) (r1) ((b0.Checks).length) (D1) (b0.Checks)), (172, slF Rep.str (h1) ((b0.Drops).length) (u1) (b0.Drops))]) ⟨q, q, q, q, q, q, q, q, q, q, q, q, q, q, q, q, q, q, q, q, q, q, q, q, q, q, trivial⟩ ⟨q, q, trivial⟩ ⟨q, q, q, q, q, q, q, q, q, q, q, q, q, q, q, q, q, q, q, q, q, q, q, q, trivial⟩
 replace s := s.eqs (l' := [(0, .slice (d0) ((t_).length) (e0)), (1, .string (bs (t_'))), (2, .int .u8 (((t_''.toNat : Nat) : Int))), (7, .slice (A19) ((j0).length) (F0)), (9, .slice (h0) ((((t_).set 0 a0).set (t_''.toNat % ((t_).length)) b0).length) (i0)), (10, .int .i64 (((t_''.toNat % ((t_).length) : Nat) : Int))), (44, .slice (some ⟨R1, 0, none⟩) (0) (0)), (45, .slice (d0) ((t_).length) (e0)), (46, .slice (h0) ((((t_).set 0 a0).set (t_''.toNat % ((t_).length)) b0).length) (i0)), (47, .int .u8 (((t_''.toNat : Nat) : Int))), (48, .int .i64 (((t_''.toNat : Nat) : Int))), (49, .slice (d0) ((t_).length) (e0)), (50, .int .i64 ((((t_).length : Nat) : Int))), (51, .int .i64 (((t_''.toNat % ((t_).length) : Nat) : Int))), (52, .slice (h0) ((((t_).set 0 a0).set (t_''.toNat % ((t_).length)) b0).length) (i0)), (53, .slice (d0) ((t_).length) (e0)), (54, .int .i64 (((t_''.toNat % ((t_).length) : Nat) : Int))), (55, .pointer (some (V1.add 0))), (56, .agg #[.string (bs (a0.Name)), .slice (l0) ((a0.Imports).length) (u0), .slice (m0) ((a0.Types).length) (v0), .slice (n0) ((a0.Templates).length) (x0), .slice (o0) ((a0.Entries).length) (y0), .slice (p0) ((a0.LexRules).length) (z0), .slice (q0) ((a0.Rules).length) (B0), .slice (r0) ((a0.Roots).length) (C0), .slice (s0) ((a0.Checks).length) (D0), .slice (k0) ((a0.Drops).length) (t0)]), (57, .pointer (some ⟨S1, 0 * 10, none⟩)), (58, .slice (h0) ((((t_).set 0 a0).set (t_''.toNat % ((t_).length)) b0).length) (i0)), (59, .int .i64 (((t_''.toNat % ((t_).length) : Nat) : Int))), (60, .slice (d0) ((t_).length) (e0)), (61, .pointer (some (X2.add 0))), (62, .agg #[.string (bs (b0.Name)), .slice (i1) ((b0.Imports).length) (v1), .slice (j1) ((b0.Types).length) (w1), .slice (l1) ((b0.Templates).length) (x1), .slice (n1) ((b0.Entries).length) (y1), .slice (o1) ((b0.LexRules).length) (z1), .slice (p1) ((b0.Rules).length) (B1), .slice (q1) ((b0.Roots).length) (C1), .slice (r1) ((b0.Checks).length) (D1), .slice (h1) ((b0.Drops).length) (u1)]), (63, .pointer (some ⟨u2, (t_''.toNat % ((t_).length)) * 10, none⟩))]) (L' := [(1800, Ob.row (h0) ((((t_).set 0 a0).set (t_''.toNat % ((t_).length)) b0).length) (i0) 38 10 (splice (splice (E0) (0 * 10) [.string (bs (a0.Name)), .slice (l0) ((a0.Imports).length) (u0), .slice (m0) ((a0.Types).length) (v0), .slice (n0) ((a0.Templates).length) (x0), .slice (o0) ((a0.Entries).length) (y0), .slice (p0) ((a0.LexRules).length) (z0), .slice (q0) ((a0.Rules).length) (B0), .slice (r0) ((a0.Roots).length) (C0), .slice (s0) ((a0.Checks).length) (D0), .slice (k0) ((a0.Drops).length) (t0)]) ((t_''.toNat % ((t_).length)) * 10) [.string (bs (b0.Name)), .slice (i1) ((b0.Imports).length) (v1), .slice (j1) ((b0.Types).length) (w1), .slice (l1) ((b0.Templates).length) (x1), .slice (n1) ((b0.Entries).length) (y1), .slice (o1) ((b0.LexRules).length) (z1), .slice (p1) ((b0.Rules).length) (B1), .slice (q1) ((b0.Roots).length) (C1), .slice (r1) ((b0.Checks).length) (D1), .slice (h1) ((b0.Drops).length) (u1)])), (700102, Ob.row (A19) ((j0).length) (F0) 38 10 (U0))]) (by simp only [List.length_set]) (by simp only [List.length_set])
 replace s := s.add 173 (rdF RModule (splice (splice (E0) (0 * 10) [vT a0.Name, sl l0 a0.Imports u0, sl m0 a0.Types v0, sl n0 a0.Templates x0, sl o0 a0.Entries y0, sl p0 a0.LexRules z0, sl q0 a0.Rules B0, sl r0 a0.Roots C0, sl s0 a0.Checks D0, sl k0 a0.Drops t0]) ((t_''.toNat % ((t_).length)) * 10) [vT b0.Name, sl i1 b0.Imports v1, sl j1 b0.Types w1, sl l1 b0.Templates x1, sl n1 b0.Entries y1, sl o1 b0.LexRules z1, sl p1 b0.Rules B1, sl q1 b0.Roots C1, sl r1 b0.Checks D1, sl h1 b0.Drops u1]) (((t_).set 0 a0).set (t_''.toNat % ((t_).length)) b0)) (RdAll.put (s.ft 153 q) (RModule.mk' (x := b0) (by omega) (s.ft 164 q) (s.ft 165 q) (s.ft 166 q) (s.ft 167 q) (s.ft 168 q) (s.ft 169 q) (s.ft 170 q) (s.ft 171 q) (s.ft 172 q)) hzi)
 obtain ⟨H0, S4, hg⟩ := bind_some hg
 refine S s<|nw<|sw<|lw<|mw q<|mw q fun a s => ?_
 refine lC s q func12 (c_module_Order n _ _ s.lt _ _ _ (s.ft 101 q) _ (by omega) _ S4) fun y6 a w hK hp s => ?_
 obtain ⟨F1, H1, rfl, l5⟩ := hp
 obtain ⟨c0, T4, hg⟩ := bind_some hg
 refine S s<|nsw 175 l5<|mw q<|yw q (y_extract · q q)<|yw q (y_extract · q q)<|aw q<|aw q<|nw<|sw<|lw<|mw q<|mw q fun a s => ?_
 refine lC s q func17 (c_module_Link n _ _ s.lt _ _ _ (s.ft 101 q) _ (by omega) _ T4) fun z6 a w hK hp s => ?_
 obtain ⟨L0, X0, M0, Y0, O0, Z0, P0, a1, Q0, b1, R0, c1, S0, d1, T0, e1, K0, V0, rfl, l6, n5, o5, p5, q5, r5, s5, t5, v5, m5⟩ := hp
 refine S s<|nsw 185 n5<|nsw 186 o5<|nsw 187 p5<|nsw 188 q5<|nsw 189 r5<|nsw 190 s5<|nsw 191 t5<|nsw 192 v5<|nsw 193 m5<|mw q<|yw q (y_extract · q q)<|yw q (y_extract · q q) fun a s => ?_
 refine l_seq q (l_alloc (zs := [vT ([]), nS, nS, nS, nS, nS, nS, nS, nS, nS]) s 2306 q q q q fun s1 a w hb hK s => ?_)
 refine l_seq q (l_store (n := 10) (cs' := [vT c0.1.Name, sl L0 c0.1.Imports X0, sl M0 c0.1.Types Y0, sl O0 c0.1.Templates Z0, sl P0 c0.1.Entries a1, sl Q0 c0.1.LexRules b1, sl R0 c0.1.Rules c1, sl S0 c0.1.Roots d1, sl T0 c0.1.Checks e1, sl K0 c0.1.Drops V0]) s 2306 q q q q q q q q ?_); clear s; intro w hK s; clear hK
 refine S s<|aw q<|nw<|vw<|mw q<|mw q fun a s => ?_
 replace s := s.freeze (R := RModule) (kk := 700102) (L' := [(1800, Ob.row (h0) ((((t_).set 0 a0).set (t_''.toNat % ((t_).length)) b0).length) (i0) 38 10 (splice (splice (E0) (0 * 10) [vT a0.Name, sl l0 a0.Imports u0, sl m0 a0.Types v0, sl n0 a0.Templates x0, sl o0 a0.Entries y0, sl p0 a0.LexRules z0, sl q0 a0.Rules B0, sl r0 a0.Roots C0, sl s0 a0.Checks D0, sl k0 a0.Drops t0]) ((t_''.toNat % ((t_).length)) * 10) [vT b0.Name, sl i1 b0.Imports v1, sl j1 b0.Types w1, sl l1 b0.Templates x1, sl n1 b0.Entries y1, sl o1 b0.LexRules z1, sl p1 b0.Rules B1, sl q1 b0.Roots C1, sl r1 b0.Checks D1, sl h1 b0.Drops u1])), (2306, Ob.box s1 [vT c0.1.Name, sl L0 c0.1.Imports X0, sl M0 c0.1.Types Y0, sl O0 c0.1.Templates Z0, sl P0 c0.1.Entries a1, sl Q0 c0.1.LexRules b1, sl R0 c0.1.Rules c1, sl S0 c0.1.Roots d1, sl T0 c0.1.Checks e1, sl K0 c0.1.Drops V0] 38)]) 196 q q (s.ft 103 q) ⟨q, q, trivial⟩ q
 replace s := s.freeze (R := RModule) (kk := 1800) (L' := [(2306, Ob.box s1 [vT c0.1.Name, sl L0 c0.1.Imports X0, sl M0 c0.1.Types Y0, sl O0 c0.1.Templates Z0, sl P0 c0.1.Entries a1, sl Q0 c0.1.LexRules b1, sl R0 c0.1.Rules c1, sl S0 c0.1.Roots d1, sl T0 c0.1.Checks e1, sl K0 c0.1.Drops V0] 38)]) 197 q q (s.ft 173 q) ⟨q, trivial⟩ q
 refine l_seq q (l_buildDense (sz := 1) s 2402 q q q u42 q q q q q q q fun j3 a w C3 hK s => ?_)
 clear C3
 refine S s<|aw q<|nw<|sw<|vw<|aw q<|nw fun a s => ?_
 obtain ⟨V2, hg, Y3⟩ := jn_some hg
 refine c_post (fun a w => V2 = some r ∧ St (cx f6 M w0) [] [] [] a w) ?_ ?_
 ·apply wp_block
  replace s := s.add 200 (rdF (Rep.list RModule) (cellsOfL [sl A19 j0 F0, sl h0 (((t_).set 0 a0).set (t_''.toNat % ((t_).length)) b0) i0]) ([j0, ((t_).set 0 a0).set (t_''.toNat % ((t_).length)) b0])) (RdAll.cons (by exact ⟨_, _, _, q, (s.ft 196 q)⟩) (RdAll.cons (by exact ⟨_, _, _, q, (s.ft 197 q)⟩) (rN)))
  replace s := s.al 199 200 q
  replace s := s.pk [(2306, 2306), (700198, 2402)] (by decide)
  refine c_loop (σ := Nat) (fun m2 a w => ∃ (G0 : (List (List Module))) (J0 : Nat) (A80 : Option Addr) (t1 : Nat) (E1 : List Value), law22_ModuleOrder_L1 n t_ t_' H0 c0 V2 m2 G0 J0 = some r ∧ St (cx f6 M w0) [(0, sl d0 t_ e0), (1, vT (t_')), (11, sl F1 H0.1 H1), (12, vI H0.2), (13, vP s1 0), (14, vI c0.2), (15, sl A80 G0 t1), (16, vI (((J0 : Nat) : Int)))] [(2306, Ob.box s1 [vT c0.1.Name, sl L0 c0.1.Imports X0, sl M0 c0.1.Types Y0, sl O0 c0.1.Templates Z0, sl P0 c0.1.Entries a1, sl Q0 c0.1.LexRules b1, sl R0 c0.1.Rules c1, sl S0 c0.1.Roots d1, sl T0 c0.1.Checks e1, sl K0 c0.1.Drops V0] 38), (700198, Ob.row (A80) ((G0).length) (t1) 22 1 (E1))] [(101, sF RModule d0 e0 t_), (175, sF Rep.str F1 H1 H0.1), (185, sF Rep.str L0 X0 c0.1.Imports), (186, sF RTypeDecl M0 Y0 c0.1.Types), (187, sF RDef O0 Z0 c0.1.Templates), (188, sF REntryDecl P0 a1 c0.1.Entries), (189, sF RLexDecl Q0 b1 c0.1.LexRules), (190, sF RDef R0 c1 c0.1.Rules), (191, sF RDef S0 d1 c0.1.Roots), (192, sF (Rep.list Rep.str) T0 e1 c0.1.Checks), (193, sF Rep.str K0 V0 c0.1.Drops), (199, rdF (Rep.list RModule) (E1) (G0))] a w) (fun m2 => m2) n ⟨([j0, ((t_).set 0 a0).set (t_''.toNat % ((t_).length)) b0]), (0), (some ⟨j3, 0, none⟩), (2), (cellsOfL [sl A19 j0 F0, sl h0 (((t_).set 0 a0).set (t_''.toNat % ((t_).length)) b0) i0]), hg, (s.sb q q q)⟩ ?_
  clear s a; rintro m2 a w ⟨G0, J0, A80, t1, E1, hg, s⟩
  rcases m2 with _ | m2
  ·rw [law22_ModuleOrder_L1] at hg; cases hg
  rw [law22_ModuleOrder_L1] at hg
  refine S s<|sw<|vw<|mw q<|mw q<|yw q (lS · q u42)<|yw q (y_lssN (i := J0) (j := ((G0).length)) · q q)<|nw fun a s => c_dec s q (fun b2 => ?_) (fun b2 => ?_)
  ·replace hg := br_t hg b2
   have e6 := row_mx (s.wd.holds 700198 _ q)
   obtain ⟨D6, J1, hg⟩ := bind_some hg
   obtain ⟨H5, U4, hg⟩ := bind_some hg
   refine S s<|kw<|pw<|sw<|bw<|sw<|lw<|mw q<|mw q fun a s => ?_
   obtain ⟨R3, T5, J2⟩ := SlR.row1 (s.wd.holds 700198 _ q) (s.ft 199 q) q q J1
   refine qq s q (y_rowIndex (sz := 1) (i := J0) s q q u42 q J2 q R3) fun a s => ?_
   have B5 := (s.ft 199 q).at_ _ _ J1
   obtain ⟨O5, o6, d6, y3, T2⟩ := B5
   obtain rfl := T2.len
   refine S s<|nsw 203 T2<|yw q (y_loadRow1 (kk := 700198) · q q J2 (take1 y3) u22 q)<|mw q fun a s => ?_
   refine lC s q func12 (c_module_Order n _ _ s.lt _ _ _ (s.ft 203 q) _ (by omega) _ U4) fun B6 a w hK hp s => ?_
   obtain ⟨K5, a6, rfl, x5⟩ := hp
   obtain ⟨I0, V4, hg⟩ := bind_some hg
   refine S s<|nsw 204 x5<|mw q<|yw q (y_extract · q q)<|yw q (y_extract · q q)<|aw q<|aw q<|nw<|sw<|lw<|mw q<|mw q fun a s => ?_
   obtain ⟨M3, R5, F2⟩ := SlR.row1 (s.wd.holds 700198 _ q) (s.ft 199 q) q q J1
   refine qq s q (y_rowIndex (sz := 1) (i := J0) s q q u42 q F2 q M3) fun a s => ?_
   have y5 := (s.ft 199 q).at_ _ _ J1
   obtain ⟨L5, m6, b6, w3, R2⟩ := y5
   obtain rfl := R2.len
   refine S s<|nsw 215 R2<|yw q (y_loadRow1 (kk := 700198) · q q F2 (take1 w3) u22 q)<|mw q fun a s => ?_
   refine lC s q func17 (c_module_Link n _ _ s.lt _ _ _ (s.ft 215 q) _ (by omega) _ V4) fun u6 a w hK hp s => ?_
   obtain ⟨a3, m3, b3, n3, c3, o3, d3, p3, e3, q3, g3, s3, h3, t3, i3, v3, Z2, l3, rfl, k6, a5, b5, c5, d5, e5, g5, h5, i5, Z4⟩ := hp
   refine S s<|nsw 216 a5<|nsw 217 b5<|nsw 218 c5<|nsw 219 d5<|nsw 220 e5<|nsw 221 g5<|nsw 222 h5<|nsw 223 i5<|nsw 224 Z4<|mw q<|yw q (y_extract · q q)<|yw q (y_extract · q q) fun a s => ?_
   refine l_seq q (l_alloc (zs := [vT ([]), nS, nS, nS, nS, nS, nS, nS, nS, nS]) s 2909 q q q q fun P5 a w hb hK s => ?_)
   refine l_seq q (l_store (n := 10) (cs' := [vT I0.1.Name, sl a3 I0.1.Imports m3, sl b3 I0.1.Types n3, sl c3 I0.1.Templates o3, sl d3 I0.1.Entries p3, sl e3 I0.1.LexRules q3, sl g3 I0.1.Rules s3, sl h3 I0.1.Roots t3, sl i3 I0.1.Checks v3, sl Z2 I0.1.Drops l3]) s 2909 q q q q q q q q ?_); clear s; intro w hK s; clear hK
   refine S s<|aw q<|nw<|sw<|sw fun a s => ?_
   obtain ⟨C5, hg, T3⟩ := jn_some hg
   refine c_post (fun a w => ∃ (h2 : Bool), C5 h2 = some r ∧ St (cx f6 M w0) [(0, sl d0 t_ e0), (1, vT (t_')), (11, sl F1 H0.1 H1), (12, vI H0.2), (13, vP s1 0), (14, vI c0.2), (15, sl A80 G0 t1), (16, vI (((J0 : Nat) : Int))), (122, .bool (h2))] [(2306, Ob.box s1 [vT c0.1.Name, sl L0 c0.1.Imports X0, sl M0 c0.1.Types Y0, sl O0 c0.1.Templates Z0, sl P0 c0.1.Entries a1, sl Q0 c0.1.LexRules b1, sl R0 c0.1.Rules c1, sl S0 c0.1.Roots d1, sl T0 c0.1.Checks e1, sl K0 c0.1.Drops V0] 38), (700198, Ob.row (A80) ((G0).length) (t1) 22 1 (E1))] [(101, sF RModule d0 e0 t_), (175, sF Rep.str F1 H1 H0.1), (185, sF Rep.str L0 X0 c0.1.Imports), (186, sF RTypeDecl M0 Y0 c0.1.Types), (187, sF RDef O0 Z0 c0.1.Templates), (188, sF REntryDecl P0 a1 c0.1.Entries), (189, sF RLexDecl Q0 b1 c0.1.LexRules), (190, sF RDef R0 c1 c0.1.Rules), (191, sF RDef S0 d1 c0.1.Roots), (192, sF (Rep.list Rep.str) T0 e1 c0.1.Checks), (193, sF Rep.str K0 V0 c0.1.Drops), (199, rdF (Rep.list RModule) (E1) (G0))] a w) ?_ ?_
   ·rcases Decidable.em (H0.2 ≠ H5.2) with K1 | K1
    ·have L1 := decide_eq_true K1
     replace hg := br_t hg K1
     refine S s<|lw<|mw q<|mw q<|yw q (fun s => yl_b (y_neq s q q) L1)<|mw q<|gw q<|gw q<|gw q<|gw q<|tw_ q<|mw q<|gw q<|gw q<|gw q<|tw_ q<|mw q<|gw q<|gw q<|gw q<|gw q<|tw_ q<|nw fun a s => ?_
     exact ⟨(true), hg, (s.sb q q q)⟩
    have L1 := decide_eq_false K1
    replace hg := br_f hg K1
    obtain ⟨E5, c2, hg⟩ := bind_some hg
    rcases Bool.eq_false_or_eq_true (!(E5)) with I1 | I1
    ·replace hg := br_t hg I1
     refine S s<|lw<|mw q<|mw q<|yw q (fun s => yl_b (y_neq s q q) L1)<|mw q<|hw q<|hw q fun a s => ?_
     refine gV s q func14 (c_r01_Same n _ _ s.lt _ _ _ (s.ft 175 q) _ _ _ (s.ft 204 q) _ c2) fun a w hK s => ?_
     refine S s<|zw q (fun s => yl_b (y_not s q) I1)<|fw q<|mw q<|gw q<|gw q<|gw q<|tw_ q<|mw q<|gw q<|gw q<|gw q<|gw q<|tw_ q<|nw fun a s => ?_
     exact ⟨(true), hg, (s.sb q q q)⟩
    replace hg := br_n hg I1
    rcases Decidable.em (c0.2 ≠ I0.2) with M1 | M1
    ·have d2 := decide_eq_true M1
     replace hg := br_t hg M1
     refine S s<|lw<|mw q<|mw q<|yw q (fun s => yl_b (y_neq s q q) L1)<|mw q<|hw q<|hw q fun a s => ?_
     refine gV s q func14 (c_r01_Same n _ _ s.lt _ _ _ (s.ft 175 q) _ _ _ (s.ft 204 q) _ c2) fun a w hK s => ?_
     refine S s<|zw q (fun s => yl_b (y_not s q) I1)<|fw q<|mw q<|hw q<|hw q<|zw q (fun s => yl_b (y_neq s q q) d2)<|fw q<|mw q<|gw q<|gw q<|gw q<|gw q<|tw_ q<|nw fun a s => ?_
     exact ⟨(true), hg, (s.sb q q q)⟩
    have d2 := decide_eq_false M1
    replace hg := br_f hg M1
    obtain ⟨F5, L4, hg⟩ := bind_some hg
    refine S s<|lw<|mw q<|mw q<|yw q (fun s => yl_b (y_neq s q q) L1)<|mw q<|hw q<|hw q fun a s => ?_
    refine gV s q func14 (c_r01_Same n _ _ s.lt _ _ _ (s.ft 175 q) _ _ _ (s.ft 204 q) _ c2) fun a w hK s => ?_
    refine S s<|zw q (fun s => yl_b (y_not s q) I1)<|fw q<|mw q<|hw q<|hw q<|zw q (fun s => yl_b (y_neq s q q) d2)<|fw q<|mw q<|zw q (y_loadAll (kk := 2306) · q q u38 q q)<|zw q (y_loadAll (kk := 2909) · q q u38 q q) fun a s => ?_
    refine gV s q func19 (c_r21_SameModule n _ _ s.lt _ _ _ _ _ _ _ _ _ _ _ _ _ _ _ _ _ _ _ (by omega) (s.ft 185 q) (s.ft 186 q) (s.ft 187 q) (s.ft 188 q) (s.ft 189 q) (s.ft 190 q) (s.ft 191 q) (s.ft 192 q) (s.ft 193 q) _ _ _ _ _ _ _ _ _ _ _ _ _ _ _ _ _ _ _ (by omega) (s.ft 216 q) (s.ft 217 q) (s.ft 218 q) (s.ft 219 q) (s.ft 220 q) (s.ft 221 q) (s.ft 222 q) (s.ft 223 q) (s.ft 224 q) _ L4) fun a w hK s => ?_
    refine S s<|zw q (y_not · q)<|fw q<|nw fun a s => ?_
    exact ⟨(!(F5)), hg, (s.sb q q q)⟩
   clear s a; rintro a w ⟨h2, hg, s⟩
   subst T3
   refine c_cond s q (fun Y1 => ?_) (fun Y1 => ?_)
   ·replace hg := br_t hg Y1
    refine S s<|vw<|aw q<|nw fun a s => ?_
    apply wp_ret
    refine p_thenR ?_
    refine p_inR ?_
    refine p_thenR ?_
    refine p_thenR ?_
    refine p_inR ?_
    refine p_thenR ?_
    obtain rfl := si hg
    exact fin1 (fn := Tryz.f6) s q (r_tmp s q) q
   replace hg := br_n hg Y1
   apply wp_skip
   apply pN
   apply wQ
   obtain ⟨D5, hg, U3⟩ := jn_some hg
   refine c_post (fun a w => ∃ (i2 : Bool), D5 i2 = some r ∧ St (cx f6 M w0) [(0, sl d0 t_ e0), (1, vT (t_')), (11, sl F1 H0.1 H1), (12, vI H0.2), (13, vP s1 0), (14, vI c0.2), (15, sl A80 G0 t1), (16, vI (((J0 : Nat) : Int))), (137, .bool (i2))] [(2306, Ob.box s1 [vT c0.1.Name, sl L0 c0.1.Imports X0, sl M0 c0.1.Types Y0, sl O0 c0.1.Templates Z0, sl P0 c0.1.Entries a1, sl Q0 c0.1.LexRules b1, sl R0 c0.1.Rules c1, sl S0 c0.1.Roots d1, sl T0 c0.1.Checks e1, sl K0 c0.1.Drops V0] 38), (700198, Ob.row (A80) ((G0).length) (t1) 22 1 (E1))] [(101, sF RModule d0 e0 t_), (175, sF Rep.str F1 H1 H0.1), (185, sF Rep.str L0 X0 c0.1.Imports), (186, sF RTypeDecl M0 Y0 c0.1.Types), (187, sF RDef O0 Z0 c0.1.Templates), (188, sF REntryDecl P0 a1 c0.1.Entries), (189, sF RLexDecl Q0 b1 c0.1.LexRules), (190, sF RDef R0 c1 c0.1.Rules), (191, sF RDef S0 d1 c0.1.Roots), (192, sF (Rep.list Rep.str) T0 e1 c0.1.Checks), (193, sF Rep.str K0 V0 c0.1.Drops), (199, rdF (Rep.list RModule) (E1) (G0))] a w) ?_ ?_
   ·rcases Decidable.em (H0.2 ≠ 4) with O1 | O1
    ·have e2 := decide_eq_true O1
     replace hg := br_t hg O1
     obtain ⟨r6, O4, hg⟩ := bind_some hg
     obtain ⟨s6, P4, hg⟩ := bind_some hg
     obtain ⟨G5, Q4, hg⟩ := bind_some hg
     refine d_plan s [] [(0, some 0), (1, some 0), (2, some 0), (3, some 0), (4, some 0), (6, some 0), (7, some 0), (8, some 0), (9, some 700198), (10, some 0), (5, none), (11, none), (12, none), (13, none), (14, none)] q (by kernel_rfl) (by kernel_rfl) q ?_; clear s; intro wr hZ s; have hR := s.wd
     refine S s<|qw hR q (mo · q)<|qw hR q (fun s => yl_b (y_neq s q q) e2)<|qw hR q (mo · q) fun a s => ?_
     refine qg s hR q (mo s q) fun a s => ?_
     refine qg s hR q (mo s q) fun a s => ?_
     refine qg s hR q (mo s q) fun a s => ?_
     refine qg s hR q (mo s q) fun a s => ?_
     obtain ⟨O3, S5, G2⟩ := SlR.row1 (s.wd.holds 700198 _ q) (s.ft 199 q) q q J1
     refine qg s hR q (y_rowIndex (sz := 1) (i := J0) s q q u42 q G2 q O3) fun a s => ?_
     have z5 := (s.ft 199 q).at_ _ _ J1
     obtain ⟨M5, n6, c6, x3, S2⟩ := z5
     obtain rfl := S2.len
     replace s := s.ns 228 S2
     refine qg s hR q (y_loadRow1 (kk := 700198) s q q G2 (take1 x3) u22 q) fun a s => ?_
     refine qg s hR q (mo s q) fun a s => ?_
     refine l_take s q ⟨_, _, _, q, q, q, q⟩ (l_call (cap := []) s q func15 q (by kernel_rfl) q q (c_module_Visible n _ _ s.lt _ _ _ (s.ft 101 q) _ (by omega) _ O4) fun v6 a w hK hp s => ?_)
     refine gz hZ hK fun hZ => ?_; clear hK
     obtain ⟨I5, Y5, rfl, j5⟩ := hp
     replace s := s.ns 229 j5
     refine l_take s q ⟨_, _, _, q, q, q, q⟩ (l_call (cap := []) s q func15 q (by kernel_rfl) q q (c_module_Visible n _ _ s.lt _ _ _ (s.ft 228 q) _ (by omega) _ P4) fun w6 a w hK hp s => ?_)
     refine gz hZ hK fun hZ => ?_; clear hK
     obtain ⟨J5, Z5, rfl, k5⟩ := hp
     replace s := s.ns 230 k5
     refine l_take s q ⟨_, _, _, q, q, q, q⟩ (l_call (cap := []) s q func14 q (by kernel_rfl) q q (c_r01_Same n _ _ s.lt _ _ _ (s.ft 229 q) _ _ _ (s.ft 230 q) _ Q4) fun x6 a w hK hp s => ?_)
     refine gz hZ hK fun hZ => ?_; clear hK
     obtain rfl := hp
     refine S s<|tw q (y_not · q)<|tw q (pT · q q) fun a s => ?_
     clear hR hZ
     apply pN
     exact ⟨(!(G5)), hg, (s.sb q q q)⟩
    have e2 := decide_eq_false O1
    replace hg := br_f hg O1
    refine d_plan s [] [(0, some 0), (1, some 0), (2, some 0), (3, some 0), (4, some 0), (5, some 0), (6, some 0), (7, some 0), (8, some 0), (9, some 0), (10, some 0), (11, some 0), (12, some 0), (13, some 0), (14, some 0)] q (by kernel_rfl) (by kernel_rfl) q ?_; clear s; intro wr hZ s; have hR := s.wd
    refine S s<|qw hR q (mo · q)<|qw hR q (fun s => yl_b (y_neq s q q) e2)<|qw hR q (mo · q)<|qpw hR q<|qpw hR q<|qpw hR q<|qpw hR q<|qpw hR q<|qpw hR q<|qpw hR q<|qpw hR q<|qpw hR q<|qpw hR q<|qpw hR q<|qw hR q (pO · q q) fun a s => ?_
    clear hR hZ
    apply pN
    exact ⟨(false), hg, (s.sb q q q)⟩
   clear s a; rintro a w ⟨i2, hg, s⟩
   subst U3
   refine c_cond s q (fun Z1 => ?_) (fun Z1 => ?_)
   ·replace hg := br_t hg Z1
    refine S s<|vw<|aw q<|nw fun a s => ?_
    apply wp_ret
    refine p_inR ?_
    refine p_thenR ?_
    refine p_thenR ?_
    refine p_inR ?_
    refine p_thenR ?_
    obtain rfl := si hg
    exact fin1 (fn := Tryz.f6) s q (r_tmp s q) q
   replace hg := br_n hg Z1
   apply wp_skip
   refine p_inN ?_
   refine S s<|pw<|lw<|mw q<|yw q (y_addN (i := J0) (j := 1) · q q (in64.2 (by omega)))<|aw q<|nw<|alw 199 199 q fun a s => ?_
   exact ⟨m2, Nat.lt_succ_self _, ⟨(G0), (J0 + 1), (A80), (t1), (E1), hg, (s.sb q q q)⟩⟩
  replace hg := br_f hg b2
  apply wp_exit
  refine p_then ?_
  refine p_then ?_
  refine p_in ?_
  apply pN
  exact ⟨hg, (s.sb q q q)⟩
 clear s a; rintro a w ⟨hg, s⟩
 subst Y3
 obtain ⟨t6, R4, hg⟩ := bind_some hg
 apply wQ
 apply wL
 refine lV s q func11 (c_law22_exampleHolds n _ _ s.lt  _ R4) fun a w hK s => ?_
 refine S s<|aw q<|nw fun a s => ?_
 apply wp_ret
 obtain rfl := si hg
 exact fin1 (fn := Tryz.f6) s q (r_tmp s q) q
end Go.Proofs.YtbhjplflnkidgaaGreat

