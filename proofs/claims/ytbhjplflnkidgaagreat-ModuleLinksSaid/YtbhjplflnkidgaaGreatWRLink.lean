/- Chapter 22: a walk -/
import Derived.Test.YtbhjplflnkidgaaGreatAU
import Derived.Test.YtbhjplflnkidgaaGreatWJoined
namespace Go.Proofs.YtbhjplflnkidgaaGreat
open Go.Gl Go.RowKit Tryz
set_option linter.unusedVariables false
set_option linter.unusedSimpArgs false
set_option maxRecDepth 4000
set_option maxHeartbeats 20000000 in
theorem c_r22_Link (n : Nat) (M : Bs) (w0 : World) (hM : bM M w0) (t_ : (List Module)) (z0 : OA) (C0 : Nat) (V2 : sR RModule M w0 z0 C0 t_) (t_' : (List UInt8)) (w5 : (t_').length ≤ 9223372036854775807) (r : (Module × Int)) (hg : r22_Link n t_ t_' = some r) :
    CA Tryz.prog 18 [sl z0 t_ C0, vT t_'] w0 (fun v w => ∃ (e1 : OA), ∃ (r1 : Nat), ∃ (g1 : OA), ∃ (s1 : Nat), ∃ (h1 : OA), ∃ (t1 : Nat), ∃ (i1 : OA), ∃ (u1 : Nat), ∃ (j1 : OA), ∃ (v1 : Nat), ∃ (k1 : OA), ∃ (w1 : Nat), ∃ (l1 : OA), ∃ (x1 : Nat), ∃ (n1 : OA), ∃ (y1 : Nat), ∃ (d1 : OA), ∃ (q1 : Nat), v = .tuple #[.agg #[vT r.1.Name, sl e1 r.1.Imports r1, sl g1 r.1.Types s1, sl h1 r.1.Templates t1, sl i1 r.1.Entries u1, sl j1 r.1.LexRules v1, sl k1 r.1.Rules w1, sl l1 r.1.Roots x1, sl n1 r.1.Checks y1, sl d1 r.1.Drops q1], .int .i64 (r.2)] ∧ ((r.1.Name).length ≤ 9223372036854775807) ∧ (SlR Rep.str M w e1 (r.1.Imports).length r1 (r.1.Imports)) ∧ (SlR RTypeDecl M w g1 (r.1.Types).length s1 (r.1.Types)) ∧ (SlR RDef M w h1 (r.1.Templates).length t1 (r.1.Templates)) ∧ (SlR REntryDecl M w i1 (r.1.Entries).length u1 (r.1.Entries)) ∧ (SlR RLexDecl M w j1 (r.1.LexRules).length v1 (r.1.LexRules)) ∧ (SlR RDef M w k1 (r.1.Rules).length w1 (r.1.Rules)) ∧ (SlR RDef M w l1 (r.1.Roots).length x1 (r.1.Roots)) ∧ (SlR (Rep.list Rep.str) M w n1 (r.1.Checks).length y1 (r.1.Checks)) ∧ (SlR Rep.str M w d1 (r.1.Drops).length q1 (r.1.Drops))) := by
 unfold r22_Link at hg
 refine enter M noB func18 q q hM ?_
 intro a s
 replace s := s.es 101 V2
 apply wR
 refine l_seq q (l_alloc (zs := [vT ([]), nS, nS, nS, nS, nS, nS, nS, nS, nS]) s 1000 q q q q fun b2 a w hb hK s => ?_)
 obtain ⟨r3, l3, hg⟩ := zB hg
 refine S s<|aw q<|nw<|sw<|lw<|mw q<|mw q fun a s => ?_
 refine lC s q func13 (c_r22_Order n _ _ s.lt _ _ _ (s.ft 101 q) _ (by omega) _ l3) fun v6 a w hK hp s => ?_
 obtain ⟨E0, F0, rfl, P3⟩ := hp
 refine S s<|nsw 103 P3<|mw q<|yw q (y_extract · q q)<|yw q (y_extract · q q)<|aw q<|aw q<|nw<|sw<|vw<|mw q<|yw q (y_neq · q q)<|nw fun a s => c_dec s q (fun X0 => ?_) (fun X0 => ?_)
 ·replace hg := br_t hg X0
  refine S s<|vw<|yw q (y_build (parts := []) (ps := []) (cells := #[vT ([]), nS, nS, nS, nS, nS, nS, nS, nS, nS]) · q (by kernel_rfl))<|mw q fun a s => ?_
  refine l_seq q (l_store (n := 10) (cs' := [vT ([]), nS, nS, nS, nS, nS, nS, nS, nS, nS]) s 1000 q q q q q q q q ?_); clear s; intro w hK s; clear hK
  refine S s<|aw q<|nw fun a s => ?_
  apply wp_ret
  refine p_thenR ?_
  obtain rfl := si hg
  refine fin2 (fn := Tryz.f18) s q (r_cell (kk := 1000) (n := 10) (vs := [vT ([]), nS, nS, nS, nS, nS, nS, nS, nS, nS]) s q q u38 q q q q) (r_tmp s q) ?_
  exact ⟨(none), (0), (none), (0), (none), (0), (none), (0), (none), (0), (none), (0), (none), (0), (none), (0), (none), (0), q, lz, (SlR.nil_ _ _ _), (SlR.nil_ _ _ _), (SlR.nil_ _ _ _), (SlR.nil_ _ _ _), (SlR.nil_ _ _ _), (SlR.nil_ _ _ _), (SlR.nil_ _ _ _), (SlR.nil_ _ _ _), (SlR.nil_ _ _ _)⟩
 replace hg := br_f hg X0
 obtain ⟨r9, m3, hg⟩ := zB hg
 refine S s<|kw<|pw<|sw<|lw<|mw q<|mw q<|mw q fun a s => ?_
 refine lC s q func41 (c_r22_joined n _ _ s.lt _ _ _ (s.ft 101 q) _ _ _ (s.ft 103 q) _ (by omega) _ m3) fun V5 a w hK hp s => ?_
 obtain ⟨h0, q0, i0, r0, j0, s0, k0, t0, l0, u0, m0, v0, n0, x0, o0, y0, g0, p0, rfl, C5, B3, C3, D3, E3, F3, G3, H3, I3, z3⟩ := hp
 replace s := s.ns 113 B3 |>.ns 114 C3 |>.ns 115 D3 |>.ns 116 E3 |>.ns 117 F3 |>.ns 118 G3 |>.ns 119 H3 |>.ns 120 I3 |>.ns 121 z3
 refine l_seq q (l_alloc (zs := [vT ([]), nS, nS, nS, nS, nS, nS, nS, nS, nS]) s 1404 q q q q fun B0 a w hb hK s => ?_)
 refine l_seq q (l_store (n := 10) (cs' := [vT r9.Name, sl h0 r9.Imports q0, sl i0 r9.Types r0, sl j0 r9.Templates s0, sl k0 r9.Entries t0, sl l0 r9.LexRules u0, sl m0 r9.Rules v0, sl n0 r9.Roots x0, sl o0 r9.Checks y0, sl g0 r9.Drops p0]) s 1404 q q q q q q q q ?_); clear s; intro w hK s; clear hK
 apply wN
 apply wQ
 apply wQ
 obtain ⟨T3, hg, D2⟩ := zJ hg
 refine c_post (fun a w => ∃ (c1 : Bool), T3 c1 = some r ∧ St (cx f18 M w0) [(0, sl z0 t_ C0), (4, vP b2 0), (6, sl E0 r3.1 F0), (8, vP B0 0), (50, .bool (c1))] [(1000, Ob.box b2 [vT ([]), nS, nS, nS, nS, nS, nS, nS, nS, nS] 38), (1404, Ob.box B0 [vT r9.Name, sl h0 r9.Imports q0, sl i0 r9.Types r0, sl j0 r9.Templates s0, sl k0 r9.Entries t0, sl l0 r9.LexRules u0, sl m0 r9.Rules v0, sl n0 r9.Roots x0, sl o0 r9.Checks y0, sl g0 r9.Drops p0] 38)] [(101, sF RModule z0 C0 t_), (103, sF Rep.str E0 F0 r3.1), (113, sF Rep.str h0 q0 r9.Imports), (114, sF RTypeDecl i0 r0 r9.Types), (115, sF RDef j0 s0 r9.Templates), (116, sF REntryDecl k0 t0 r9.Entries), (117, sF RLexDecl l0 u0 r9.LexRules), (118, sF RDef m0 v0 r9.Rules), (119, sF RDef n0 x0 r9.Roots), (120, sF (Rep.list Rep.str) o0 y0 r9.Checks), (121, sF Rep.str g0 p0 r9.Drops)] a w) ?_ ?_
 ·obtain ⟨I5, L0, hg⟩ := zB hg
  obtain ⟨a0, M0, hg⟩ := zB hg
  obtain ⟨b0, O0, hg⟩ := zB hg
  obtain ⟨G0, hg⟩ := zC hg
  obtain ⟨V3, P0, hg⟩ := zB hg
  rcases Bool.eq_false_or_eq_true (V3) with H0 | H0
  ·replace hg := br_t hg H0
   refine d_plan s [] [(2, some 0), (3, some 1404), (0, none), (1, none), (4, none), (5, none), (6, none), (7, none), (8, none), (9, none), (10, none), (11, none), (12, none), (13, none), (14, none), (15, none), (16, none), (17, none), (18, none), (19, none), (20, none), (21, none), (22, none), (23, none)] q (by kernel_rfl) (by kernel_rfl) q ?_; clear s; intro wr hZ s; have hR := s.wd
   refine S s<|qw hR q (bF 2 · u38 q)<|qw hR q (lB 1404 · u32 q) fun a s => ?_
   refine l_take s q q (l_call (cap := []) s q func34 q (by kernel_rfl) q q (c_r06_Prelude n _ _ s.lt  _ L0) fun Z5 a w hK hp s => ?_)
   refine gz hZ hK fun hZ => ?_; clear hK
   obtain ⟨r4, X4, rfl, K3⟩ := hp
   replace s := s.ns 127 K3
   refine l_take s q q (l_callOwn (cap := []) (post := (fun v ob w' => ∃ Ao co cso, ob = Ob.row Ao (a0).length co 9 1 cso ∧ v = sl Ao a0 co ∧ RdAll Rep.str (fun b => mtb _ _ b ∨ ob.ids b) w' cso (a0) ∧ (∀ b, ob.ids b → _ ≤ b))) s 1501 q q func43 q (by kernel_rfl) q q ((c_r22_typeNames n _ _ s.lt _ _ _ (s.ft 127 q) _ M0).mono (fun e w' h => by obtain ⟨v, he, hk, Ao, co, cso, hv, d0, c0, e0⟩ := h; exact ⟨v, he, hk, _, d0, c0, ⟨Ao, co, cso, q, hv, e0, c0⟩⟩)) fun a6 ob a w hK hp s => ?_)
   obtain ⟨g2, Y4, B1, rfl, rfl, O2, L1⟩ := hp
   have T1 : NewA wr g2 := NewA.grow hZ (fun p hp => L1 _ ⟨p, hp, q⟩)
   clear L1
   refine gz hZ hK fun hZ => ?_; clear hK
   replace s := s.add 128 (rdF Rep.str B1 (a0)) (RdAll.up2 s O2)
   refine l_take s q q (l_callOwn (cap := []) (post := (fun v ob w' => ∃ Ao co cso, ob = Ob.row Ao (b0).length co 9 1 cso ∧ v = sl Ao b0 co ∧ RdAll Rep.str (fun b => mtb _ _ b ∨ ob.ids b) w' cso (b0) ∧ (∀ b, ob.ids b → _ ≤ b))) s 1504 q q func43 q (by kernel_rfl) q q ((c_r22_typeNames n _ _ s.lt _ _ _ (s.ft 114 q) _ O0).mono (fun e w' h => by obtain ⟨v, he, hk, Ao, co, cso, hv, d0, c0, e0⟩ := h; exact ⟨v, he, hk, _, d0, c0, ⟨Ao, co, cso, q, hv, e0, c0⟩⟩)) fun b6 ob a w hK hp s => ?_)
   obtain ⟨h2, Z4, C1, rfl, rfl, P2, M1⟩ := hp
   have r5 : NewA wr h2 := NewA.grow hZ (fun p hp => M1 _ ⟨p, hp, q⟩)
   clear M1
   refine gz hZ hK fun hZ => ?_; clear hK
   replace s := s.add 129 (rdF Rep.str C1 (b0)) (RdAll.up2 s P2)
   have q3 := row_src (s.wd.holds 1504 _ q) (RdAll.one (s.ft 129 q))
   refine l_take s q q (l_append (sz := 1) (by_ := 16) (N := (a0 ++ b0).length) s 1501 q q q u25 q q q q q q3 (by rw [List.length_append]; try rfl) q (rmA G0 q) (rmB G0) q fun l4 K4 a w hA hK s => ?_)
   have n5 := NewA.app hZ T1 hA; replace hZ := Nat.le_trans hZ hK.size; refine ⟨fun g _ h => h.app hR hK (NewA.ids T1), ?_⟩
   replace s := s.add 130 (rdF Rep.str (B1 ++ C1) (a0 ++ b0)) (RdAll.append (s.ft 128 q) (s.ft 129 q))
   have hT := s
   replace hT := hT.fz (R := Rep.str) (kk := 1501) [1000, 1404, 1504] 131 q q (hT.ft 130 q) q
   refine l_take s q q (l_call (cap := []) s q func42 q (by kernel_rfl) q q (c_r22_twice n _ _ hT.lt _ _ _ (hT.ft 131 q) _ P0) fun c6 a w hK hp s => ?_)
   refine gz hZ hK fun hZ => ?_; clear hK
   obtain rfl := hp.trans (congrArg Value.bool H0)
   refine S s<|tw q (mo · q) fun a s => ?_
   refine l_pass s q (rR q) q q fun a s => ?_
   refine l_pass s q (rR q) q q fun a s => ?_
   refine l_pass s q (rR q) q q fun a s => ?_
   refine l_pass s q (rR q) q q fun a s => ?_
   refine S s<|tw q (pT · q q)<|tw q (mo · q) fun a s => ?_
   refine l_pass s q (rR q) q q fun a s => ?_
   refine l_pass s q (rR q) q q fun a s => ?_
   refine l_pass s q (rR q) q q fun a s => ?_
   refine S s<|tw q (pT · q q)<|tw q (mo · q) fun a s => ?_
   refine l_pass s q (rR q) q q fun a s => ?_
   refine l_pass s q (rR q) q q fun a s => ?_
   refine l_pass s q (rR q) q q fun a s => ?_
   refine l_pass s q (rR q) q q fun a s => ?_
   refine S s<|tw q (pT · q q) fun a s => ?_
   clear hR hZ
   apply pN
   exact ⟨(true), hg, (s.sb q q q)⟩
  replace hg := br_n hg H0
  obtain ⟨J5, Y0, hg⟩ := zB hg
  obtain ⟨X3, Z0, hg⟩ := zB hg
  rcases Bool.eq_false_or_eq_true (X3) with J0 | J0
  ·replace hg := br_t hg J0
   refine d_plan s [] [(2, some 0), (3, some 1404), (0, none), (1, none), (4, none), (5, none), (6, none), (7, none), (8, none), (9, none), (10, none), (11, none), (12, none), (13, none), (14, none), (15, none), (16, none), (17, none), (18, none), (19, none), (20, none), (21, none), (22, none), (23, none)] q (by kernel_rfl) (by kernel_rfl) q ?_; clear s; intro wr hZ s; have hR := s.wd
   refine S s<|qw hR q (bF 2 · u38 q)<|qw hR q (lB 1404 · u32 q) fun a s => ?_
   refine l_take s q q (l_call (cap := []) s q func34 q (by kernel_rfl) q q (c_r06_Prelude n _ _ s.lt  _ L0) fun d6 a w hK hp s => ?_)
   refine gz hZ hK fun hZ => ?_; clear hK
   obtain ⟨s4, a5, rfl, L3⟩ := hp
   replace s := s.ns 133 L3
   refine l_take s q q (l_callOwn (cap := []) (post := (fun v ob w' => ∃ Ao co cso, ob = Ob.row Ao (a0).length co 9 1 cso ∧ v = sl Ao a0 co ∧ RdAll Rep.str (fun b => mtb _ _ b ∨ ob.ids b) w' cso (a0) ∧ (∀ b, ob.ids b → _ ≤ b))) s 1501 q q func43 q (by kernel_rfl) q q ((c_r22_typeNames n _ _ s.lt _ _ _ (s.ft 133 q) _ M0).mono (fun e w' h => by obtain ⟨v, he, hk, Ao, co, cso, hv, d0, c0, e0⟩ := h; exact ⟨v, he, hk, _, d0, c0, ⟨Ao, co, cso, q, hv, e0, c0⟩⟩)) fun e6 ob a w hK hp s => ?_)
   obtain ⟨i2, b5, D1, rfl, rfl, Q2, O1⟩ := hp
   have U1 : NewA wr i2 := NewA.grow hZ (fun p hp => O1 _ ⟨p, hp, q⟩)
   clear O1
   refine gz hZ hK fun hZ => ?_; clear hK
   replace s := s.add 134 (rdF Rep.str D1 (a0)) (RdAll.up2 s Q2)
   refine l_take s q q (l_callOwn (cap := []) (post := (fun v ob w' => ∃ Ao co cso, ob = Ob.row Ao (b0).length co 9 1 cso ∧ v = sl Ao b0 co ∧ RdAll Rep.str (fun b => mtb _ _ b ∨ ob.ids b) w' cso (b0) ∧ (∀ b, ob.ids b → _ ≤ b))) s 1504 q q func43 q (by kernel_rfl) q q ((c_r22_typeNames n _ _ s.lt _ _ _ (s.ft 114 q) _ O0).mono (fun e w' h => by obtain ⟨v, he, hk, Ao, co, cso, hv, d0, c0, e0⟩ := h; exact ⟨v, he, hk, _, d0, c0, ⟨Ao, co, cso, q, hv, e0, c0⟩⟩)) fun g6 ob a w hK hp s => ?_)
   obtain ⟨j2, c5, E1, rfl, rfl, R2, P1⟩ := hp
   have s5 : NewA wr j2 := NewA.grow hZ (fun p hp => P1 _ ⟨p, hp, q⟩)
   clear P1
   refine gz hZ hK fun hZ => ?_; clear hK
   replace s := s.add 135 (rdF Rep.str E1 (b0)) (RdAll.up2 s R2)
   have s3 := row_src (s.wd.holds 1504 _ q) (RdAll.one (s.ft 135 q))
   refine l_take s q q (l_append (sz := 1) (by_ := 16) (N := (a0 ++ b0).length) s 1501 q q q u25 q q q q q s3 (by rw [List.length_append]; try rfl) q (rmA G0 q) (rmB G0) q fun m4 L4 a w hA hK s => ?_)
   have o5 := NewA.app hZ U1 hA; replace hZ := Nat.le_trans hZ hK.size; refine ⟨fun g _ h => h.app hR hK (NewA.ids U1), ?_⟩
   replace s := s.add 136 (rdF Rep.str (D1 ++ E1) (a0 ++ b0)) (RdAll.append (s.ft 134 q) (s.ft 135 q))
   have hT := s
   replace hT := hT.fz (R := Rep.str) (kk := 1501) [1000, 1404, 1504] 137 q q (hT.ft 136 q) q
   refine l_take s q q (l_call (cap := []) s q func42 q (by kernel_rfl) q q (c_r22_twice n _ _ hT.lt _ _ _ (hT.ft 137 q) _ P0) fun h6 a w hK hp s => ?_)
   refine gz hZ hK fun hZ => ?_; clear hK
   obtain rfl := hp.trans (congrArg Value.bool H0)
   refine S s<|tw q (mo · q)<|tw q (bF 3 · u38 q)<|tw q (lB 1404 · u33 q) fun a s => ?_
   refine l_take s q (rR q) (l_call (cap := []) s q func44 q (by kernel_rfl) q q (c_r22_defNames n _ _ s.lt _ _ _ (s.ft 115 q) _ Y0) fun i6 a w hK hp s => ?_)
   refine gz hZ hK fun hZ => ?_; clear hK
   obtain ⟨t4, d5, rfl, M3⟩ := hp
   replace s := s.ns 138 M3
   refine l_take s q (rR q) (l_call (cap := []) s q func42 q (by kernel_rfl) q q (c_r22_twice n _ _ s.lt _ _ _ (s.ft 138 q) _ Z0) fun j6 a w hK hp s => ?_)
   refine gz hZ hK fun hZ => ?_; clear hK
   obtain rfl := hp.trans (congrArg Value.bool J0)
   refine S s<|tw q (pO · q q)<|tw q (mo · q) fun a s => ?_
   refine l_pass s q (rR q) q q fun a s => ?_
   refine l_pass s q (rR q) q q fun a s => ?_
   refine l_pass s q (rR q) q q fun a s => ?_
   refine S s<|tw q (pT · q q)<|tw q (mo · q) fun a s => ?_
   refine l_pass s q (rR q) q q fun a s => ?_
   refine l_pass s q (rR q) q q fun a s => ?_
   refine l_pass s q (rR q) q q fun a s => ?_
   refine l_pass s q (rR q) q q fun a s => ?_
   refine S s<|tw q (pT · q q) fun a s => ?_
   clear hR hZ
   apply pN
   exact ⟨(true), hg, (s.sb q q q)⟩
  replace hg := br_n hg J0
  obtain ⟨K5, Y1, hg⟩ := zB hg
  obtain ⟨Y3, Z1, hg⟩ := zB hg
  rcases Bool.eq_false_or_eq_true (Y3) with K0 | K0
  ·replace hg := br_t hg K0
   refine d_plan s [] [(2, some 0), (3, some 1404), (0, none), (1, none), (4, none), (5, none), (6, none), (7, none), (8, none), (9, none), (10, none), (11, none), (12, none), (13, none), (14, none), (15, none), (16, none), (17, none), (18, none), (19, none), (20, none), (21, none), (22, none), (23, none)] q (by kernel_rfl) (by kernel_rfl) q ?_; clear s; intro wr hZ s; have hR := s.wd
   refine S s<|qw hR q (bF 2 · u38 q)<|qw hR q (lB 1404 · u32 q) fun a s => ?_
   refine l_take s q q (l_call (cap := []) s q func34 q (by kernel_rfl) q q (c_r06_Prelude n _ _ s.lt  _ L0) fun k6 a w hK hp s => ?_)
   refine gz hZ hK fun hZ => ?_; clear hK
   obtain ⟨v4, e5, rfl, O3⟩ := hp
   replace s := s.ns 140 O3
   refine l_take s q q (l_callOwn (cap := []) (post := (fun v ob w' => ∃ Ao co cso, ob = Ob.row Ao (a0).length co 9 1 cso ∧ v = sl Ao a0 co ∧ RdAll Rep.str (fun b => mtb _ _ b ∨ ob.ids b) w' cso (a0) ∧ (∀ b, ob.ids b → _ ≤ b))) s 1501 q q func43 q (by kernel_rfl) q q ((c_r22_typeNames n _ _ s.lt _ _ _ (s.ft 140 q) _ M0).mono (fun e w' h => by obtain ⟨v, he, hk, Ao, co, cso, hv, d0, c0, e0⟩ := h; exact ⟨v, he, hk, _, d0, c0, ⟨Ao, co, cso, q, hv, e0, c0⟩⟩)) fun l6 ob a w hK hp s => ?_)
   obtain ⟨k2, g5, F1, rfl, rfl, S2, Q1⟩ := hp
   have V1 : NewA wr k2 := NewA.grow hZ (fun p hp => Q1 _ ⟨p, hp, q⟩)
   clear Q1
   refine gz hZ hK fun hZ => ?_; clear hK
   replace s := s.add 141 (rdF Rep.str F1 (a0)) (RdAll.up2 s S2)
   refine l_take s q q (l_callOwn (cap := []) (post := (fun v ob w' => ∃ Ao co cso, ob = Ob.row Ao (b0).length co 9 1 cso ∧ v = sl Ao b0 co ∧ RdAll Rep.str (fun b => mtb _ _ b ∨ ob.ids b) w' cso (b0) ∧ (∀ b, ob.ids b → _ ≤ b))) s 1504 q q func43 q (by kernel_rfl) q q ((c_r22_typeNames n _ _ s.lt _ _ _ (s.ft 114 q) _ O0).mono (fun e w' h => by obtain ⟨v, he, hk, Ao, co, cso, hv, d0, c0, e0⟩ := h; exact ⟨v, he, hk, _, d0, c0, ⟨Ao, co, cso, q, hv, e0, c0⟩⟩)) fun m6 ob a w hK hp s => ?_)
   obtain ⟨l2, h5, G1, rfl, rfl, T2, R1⟩ := hp
   have t5 : NewA wr l2 := NewA.grow hZ (fun p hp => R1 _ ⟨p, hp, q⟩)
   clear R1
   refine gz hZ hK fun hZ => ?_; clear hK
   replace s := s.add 142 (rdF Rep.str G1 (b0)) (RdAll.up2 s T2)
   have t3 := row_src (s.wd.holds 1504 _ q) (RdAll.one (s.ft 142 q))
   refine l_take s q q (l_append (sz := 1) (by_ := 16) (N := (a0 ++ b0).length) s 1501 q q q u25 q q q q q t3 (by rw [List.length_append]; try rfl) q (rmA G0 q) (rmB G0) q fun n4 M4 a w hA hK s => ?_)
   have p5 := NewA.app hZ V1 hA; replace hZ := Nat.le_trans hZ hK.size; refine ⟨fun g _ h => h.app hR hK (NewA.ids V1), ?_⟩
   replace s := s.add 143 (rdF Rep.str (F1 ++ G1) (a0 ++ b0)) (RdAll.append (s.ft 141 q) (s.ft 142 q))
   have hT := s
   replace hT := hT.fz (R := Rep.str) (kk := 1501) [1000, 1404, 1504] 144 q q (hT.ft 143 q) q
   refine l_take s q q (l_call (cap := []) s q func42 q (by kernel_rfl) q q (c_r22_twice n _ _ hT.lt _ _ _ (hT.ft 144 q) _ P0) fun n6 a w hK hp s => ?_)
   refine gz hZ hK fun hZ => ?_; clear hK
   obtain rfl := hp.trans (congrArg Value.bool H0)
   refine S s<|tw q (mo · q)<|tw q (bF 3 · u38 q)<|tw q (lB 1404 · u33 q) fun a s => ?_
   refine l_take s q (rR q) (l_call (cap := []) s q func44 q (by kernel_rfl) q q (c_r22_defNames n _ _ s.lt _ _ _ (s.ft 115 q) _ Y0) fun o6 a w hK hp s => ?_)
   refine gz hZ hK fun hZ => ?_; clear hK
   obtain ⟨w4, i5, rfl, Q3⟩ := hp
   replace s := s.ns 145 Q3
   refine l_take s q (rR q) (l_call (cap := []) s q func42 q (by kernel_rfl) q q (c_r22_twice n _ _ s.lt _ _ _ (s.ft 145 q) _ Z0) fun p6 a w hK hp s => ?_)
   refine gz hZ hK fun hZ => ?_; clear hK
   obtain rfl := hp.trans (congrArg Value.bool J0)
   refine S s<|tw q (pO · q q)<|tw q (mo · q)<|tw q (y_loadAll (kk := 1404) · q q u38 q q) fun a s => ?_
   refine l_take s q (rR q) (l_call (cap := []) s q func45 q (by kernel_rfl) q q (c_r22_ruleNames n _ _ s.lt _ _ _ _ _ _ _ _ _ _ _ _ _ _ _ _ _ _ _ (by omega) (s.ft 113 q) (s.ft 114 q) (s.ft 115 q) (s.ft 116 q) (s.ft 117 q) (s.ft 118 q) (s.ft 119 q) (s.ft 120 q) (s.ft 121 q) _ Y1) fun q6 a w hK hp s => ?_)
   refine gz hZ hK fun hZ => ?_; clear hK
   obtain ⟨x4, j5, rfl, R3⟩ := hp
   replace s := s.ns 146 R3
   refine l_take s q (rR q) (l_call (cap := []) s q func42 q (by kernel_rfl) q q (c_r22_twice n _ _ s.lt _ _ _ (s.ft 146 q) _ Z1) fun r6 a w hK hp s => ?_)
   refine gz hZ hK fun hZ => ?_; clear hK
   obtain rfl := hp.trans (congrArg Value.bool K0)
   refine S s<|tw q (pO · q q)<|tw q (mo · q) fun a s => ?_
   refine l_pass s q (rR q) q q fun a s => ?_
   refine l_pass s q (rR q) q q fun a s => ?_
   refine l_pass s q (rR q) q q fun a s => ?_
   refine l_pass s q (rR q) q q fun a s => ?_
   refine S s<|tw q (pT · q q) fun a s => ?_
   clear hR hZ
   apply pN
   exact ⟨(true), hg, (s.sb q q q)⟩
  replace hg := br_n hg K0
  obtain ⟨L5, n3, hg⟩ := zB hg
  obtain ⟨Z3, o3, hg⟩ := zB hg
  refine d_plan s [] [(2, some 0), (3, some 1404), (0, none), (1, none), (4, none), (5, none), (6, none), (7, none), (8, none), (9, none), (10, none), (11, none), (12, none), (13, none), (14, none), (15, none), (16, none), (17, none), (18, none), (19, none), (20, none), (21, none), (22, none), (23, none)] q (by kernel_rfl) (by kernel_rfl) q ?_; clear s; intro wr hZ s; have hR := s.wd
  refine S s<|qw hR q (bF 2 · u38 q)<|qw hR q (lB 1404 · u32 q) fun a s => ?_
  refine l_take s q q (l_call (cap := []) s q func34 q (by kernel_rfl) q q (c_r06_Prelude n _ _ s.lt  _ L0) fun s6 a w hK hp s => ?_)
  refine gz hZ hK fun hZ => ?_; clear hK
  obtain ⟨y4, k5, rfl, S3⟩ := hp
  replace s := s.ns 148 S3
  refine l_take s q q (l_callOwn (cap := []) (post := (fun v ob w' => ∃ Ao co cso, ob = Ob.row Ao (a0).length co 9 1 cso ∧ v = sl Ao a0 co ∧ RdAll Rep.str (fun b => mtb _ _ b ∨ ob.ids b) w' cso (a0) ∧ (∀ b, ob.ids b → _ ≤ b))) s 1501 q q func43 q (by kernel_rfl) q q ((c_r22_typeNames n _ _ s.lt _ _ _ (s.ft 148 q) _ M0).mono (fun e w' h => by obtain ⟨v, he, hk, Ao, co, cso, hv, d0, c0, e0⟩ := h; exact ⟨v, he, hk, _, d0, c0, ⟨Ao, co, cso, q, hv, e0, c0⟩⟩)) fun t6 ob a w hK hp s => ?_)
  obtain ⟨n2, l5, H1, rfl, rfl, U2, S1⟩ := hp
  have X1 : NewA wr n2 := NewA.grow hZ (fun p hp => S1 _ ⟨p, hp, q⟩)
  clear S1
  refine gz hZ hK fun hZ => ?_; clear hK
  replace s := s.add 149 (rdF Rep.str H1 (a0)) (RdAll.up2 s U2)
  refine l_take s q q (l_callOwn (cap := []) (post := (fun v ob w' => ∃ Ao co cso, ob = Ob.row Ao (b0).length co 9 1 cso ∧ v = sl Ao b0 co ∧ RdAll Rep.str (fun b => mtb _ _ b ∨ ob.ids b) w' cso (b0) ∧ (∀ b, ob.ids b → _ ≤ b))) s 1504 q q func43 q (by kernel_rfl) q q ((c_r22_typeNames n _ _ s.lt _ _ _ (s.ft 114 q) _ O0).mono (fun e w' h => by obtain ⟨v, he, hk, Ao, co, cso, hv, d0, c0, e0⟩ := h; exact ⟨v, he, hk, _, d0, c0, ⟨Ao, co, cso, q, hv, e0, c0⟩⟩)) fun M5 ob a w hK hp s => ?_)
  obtain ⟨e2, S4, z1, rfl, rfl, M2, K1⟩ := hp
  have q5 : NewA wr e2 := NewA.grow hZ (fun p hp => K1 _ ⟨p, hp, q⟩)
  clear K1
  refine gz hZ hK fun hZ => ?_; clear hK
  replace s := s.add 150 (rdF Rep.str z1 (b0)) (RdAll.up2 s M2)
  have p3 := row_src (s.wd.holds 1504 _ q) (RdAll.one (s.ft 150 q))
  refine l_take s q q (l_append (sz := 1) (by_ := 16) (N := (a0 ++ b0).length) s 1501 q q q u25 q q q q q p3 (by rw [List.length_append]; try rfl) q (rmA G0 q) (rmB G0) q fun a4 z4 a w hA hK s => ?_)
  have m5 := NewA.app hZ X1 hA; replace hZ := Nat.le_trans hZ hK.size; refine ⟨fun g _ h => h.app hR hK (NewA.ids X1), ?_⟩
  replace s := s.add 151 (rdF Rep.str (H1 ++ z1) (a0 ++ b0)) (RdAll.append (s.ft 149 q) (s.ft 150 q))
  have hT := s
  replace hT := hT.fz (R := Rep.str) (kk := 1501) [1000, 1404, 1504] 152 q q (hT.ft 151 q) q
  refine l_take s q q (l_call (cap := []) s q func42 q (by kernel_rfl) q q (c_r22_twice n _ _ hT.lt _ _ _ (hT.ft 152 q) _ P0) fun O5 a w hK hp s => ?_)
  refine gz hZ hK fun hZ => ?_; clear hK
  obtain rfl := hp.trans (congrArg Value.bool H0)
  refine S s<|tw q (mo · q)<|tw q (bF 3 · u38 q)<|tw q (lB 1404 · u33 q) fun a s => ?_
  refine l_take s q (rR q) (l_call (cap := []) s q func44 q (by kernel_rfl) q q (c_r22_defNames n _ _ s.lt _ _ _ (s.ft 115 q) _ Y0) fun P5 a w hK hp s => ?_)
  refine gz hZ hK fun hZ => ?_; clear hK
  obtain ⟨o4, T4, rfl, v3⟩ := hp
  replace s := s.ns 153 v3
  refine l_take s q (rR q) (l_call (cap := []) s q func42 q (by kernel_rfl) q q (c_r22_twice n _ _ s.lt _ _ _ (s.ft 153 q) _ Z0) fun Q5 a w hK hp s => ?_)
  refine gz hZ hK fun hZ => ?_; clear hK
  obtain rfl := hp.trans (congrArg Value.bool J0)
  refine S s<|tw q (pO · q q)<|tw q (mo · q)<|tw q (y_loadAll (kk := 1404) · q q u38 q q) fun a s => ?_
  refine l_take s q (rR q) (l_call (cap := []) s q func45 q (by kernel_rfl) q q (c_r22_ruleNames n _ _ s.lt _ _ _ _ _ _ _ _ _ _ _ _ _ _ _ _ _ _ _ (by omega) (s.ft 113 q) (s.ft 114 q) (s.ft 115 q) (s.ft 116 q) (s.ft 117 q) (s.ft 118 q) (s.ft 119 q) (s.ft 120 q) (s.ft 121 q) _ Y1) fun R5 a w hK hp s => ?_)
  refine gz hZ hK fun hZ => ?_; clear hK
  obtain ⟨p4, U4, rfl, w3⟩ := hp
  replace s := s.ns 154 w3
  refine l_take s q (rR q) (l_call (cap := []) s q func42 q (by kernel_rfl) q q (c_r22_twice n _ _ s.lt _ _ _ (s.ft 154 q) _ Z1) fun S5 a w hK hp s => ?_)
  refine gz hZ hK fun hZ => ?_; clear hK
  obtain rfl := hp.trans (congrArg Value.bool K0)
  refine S s<|tw q (pO · q q)<|tw q (mo · q)<|tw q (bF 7 · u38 q)<|tw q (lB 1404 · u33 q) fun a s => ?_
  refine l_take s q (rR q) (l_call (cap := []) s q func44 q (by kernel_rfl) q q (c_r22_defNames n _ _ s.lt _ _ _ (s.ft 119 q) _ n3) fun T5 a w hK hp s => ?_)
  refine gz hZ hK fun hZ => ?_; clear hK
  obtain ⟨q4, V4, rfl, x3⟩ := hp
  replace s := s.ns 155 x3
  refine l_take s q (rR q) (l_call (cap := []) s q func42 q (by kernel_rfl) q q (c_r22_twice n _ _ s.lt _ _ _ (s.ft 155 q) _ o3) fun U5 a w hK hp s => ?_)
  refine gz hZ hK fun hZ => ?_; clear hK
  obtain rfl := hp
  refine S s<|tw q (pO · q q) fun a s => ?_
  clear hR hZ
  apply pN
  exact ⟨(Z3), hg, (s.sb q q q)⟩
 clear s a; rintro a w ⟨c1, hg, s⟩
 subst D2
 refine c_cond s q (fun S0 => ?_) (fun S0 => ?_)
 ·replace hg := br_t hg S0
  apply wR
  refine qq s q (y_build (parts := []) (ps := []) (cells := #[vT ([]), nS, nS, nS, nS, nS, nS, nS, nS, nS]) s q (by kernel_rfl)) fun a s => ?_
  refine l_seq q (l_store (n := 10) (cs' := [vT ([]), nS, nS, nS, nS, nS, nS, nS, nS, nS]) s 1000 q q q q q q q q ?_); clear s; intro w hK s; clear hK
  refine S s<|aw q<|nw fun a s => ?_
  apply wp_ret
  refine p_thenR ?_
  obtain rfl := si hg
  refine fin2 (fn := Tryz.f18) s q (r_cell (kk := 1000) (n := 10) (vs := [vT ([]), nS, nS, nS, nS, nS, nS, nS, nS, nS]) s q q u38 q q q q) (r_tmp s q) ?_
  exact ⟨(none), (0), (none), (0), (none), (0), (none), (0), (none), (0), (none), (0), (none), (0), (none), (0), (none), (0), q, lz, (SlR.nil_ _ _ _), (SlR.nil_ _ _ _), (SlR.nil_ _ _ _), (SlR.nil_ _ _ _), (SlR.nil_ _ _ _), (SlR.nil_ _ _ _), (SlR.nil_ _ _ _), (SlR.nil_ _ _ _), (SlR.nil_ _ _ _)⟩
 replace hg := br_n hg S0
 refine S s<|kw<|pw<|sw<|vw<|aw q<|nw fun a s => ?_
 obtain ⟨c2, hg, B2⟩ := zJ hg
 refine c_post (fun a w => c2 = some r ∧ St (cx f18 M w0) [(4, vP b2 0), (8, vP B0 0)] [(1000, Ob.box b2 [vT ([]), nS, nS, nS, nS, nS, nS, nS, nS, nS] 38), (1404, Ob.box B0 [vT r9.Name, sl h0 r9.Imports q0, sl i0 r9.Types r0, sl j0 r9.Templates s0, sl k0 r9.Entries t0, sl l0 r9.LexRules u0, sl m0 r9.Rules v0, sl n0 r9.Roots x0, sl o0 r9.Checks y0, sl g0 r9.Drops p0] 38)] [(113, sF Rep.str h0 q0 r9.Imports), (114, sF RTypeDecl i0 r0 r9.Types), (115, sF RDef j0 s0 r9.Templates), (116, sF REntryDecl k0 t0 r9.Entries), (117, sF RLexDecl l0 u0 r9.LexRules), (118, sF RDef m0 v0 r9.Rules), (119, sF RDef n0 x0 r9.Roots), (120, sF (Rep.list Rep.str) o0 y0 r9.Checks), (121, sF Rep.str g0 p0 r9.Drops)] a w) ?_ ?_
 ·apply wp_block
  refine c_loop (σ := Nat) (fun m1 a w => ∃ (D0 : Nat), r22_Link_L0 n t_ r3 c2 m1 D0 = some r ∧ St (cx f18 M w0) [(0, sl z0 t_ C0), (4, vP b2 0), (6, sl E0 r3.1 F0), (8, vP B0 0), (9, vI (((D0 : Nat) : Int)))] [(1000, Ob.box b2 [vT ([]), nS, nS, nS, nS, nS, nS, nS, nS, nS] 38), (1404, Ob.box B0 [vT r9.Name, sl h0 r9.Imports q0, sl i0 r9.Types r0, sl j0 r9.Templates s0, sl k0 r9.Entries t0, sl l0 r9.LexRules u0, sl m0 r9.Rules v0, sl n0 r9.Roots x0, sl o0 r9.Checks y0, sl g0 r9.Drops p0] 38)] [(101, sF RModule z0 C0 t_), (103, sF Rep.str E0 F0 r3.1), (113, sF Rep.str h0 q0 r9.Imports), (114, sF RTypeDecl i0 r0 r9.Types), (115, sF RDef j0 s0 r9.Templates), (116, sF REntryDecl k0 t0 r9.Entries), (117, sF RLexDecl l0 u0 r9.LexRules), (118, sF RDef m0 v0 r9.Rules), (119, sF RDef n0 x0 r9.Roots), (120, sF (Rep.list Rep.str) o0 y0 r9.Checks), (121, sF Rep.str g0 p0 r9.Drops)] a w) (fun m1 => m1) n ⟨(0), hg, (s.sb q q q)⟩ ?_
  clear s a; rintro m1 a w ⟨D0, hg, s⟩
  rcases m1 with _ | m1
  ·rw [r22_Link_L0] at hg; cases hg
  rw [r22_Link_L0] at hg
  refine S s<|sw<|vw<|mw q<|mw q<|yw q (lS · q u25)<|yw q (y_lssN (i := D0) (j := ((r3.1).length)) · q q)<|nw fun a s => c_dec s q (fun T0 => ?_) (fun T0 => ?_)
  ·replace hg := br_t hg T0
   have u5 := SlR.mx (s.ft 103 q)
   apply wp_skip
   apply pN
   apply wQ
   obtain ⟨d2, hg, C2⟩ := zJ hg
   refine c_post (fun a w => d2 = some r ∧ St (cx f18 M w0) [(0, sl z0 t_ C0), (4, vP b2 0), (6, sl E0 r3.1 F0), (8, vP B0 0), (9, vI (((D0 : Nat) : Int)))] [(1000, Ob.box b2 [vT ([]), nS, nS, nS, nS, nS, nS, nS, nS, nS] 38), (1404, Ob.box B0 [vT r9.Name, sl h0 r9.Imports q0, sl i0 r9.Types r0, sl j0 r9.Templates s0, sl k0 r9.Entries t0, sl l0 r9.LexRules u0, sl m0 r9.Rules v0, sl n0 r9.Roots x0, sl o0 r9.Checks y0, sl g0 r9.Drops p0] 38)] [(101, sF RModule z0 C0 t_), (103, sF Rep.str E0 F0 r3.1), (113, sF Rep.str h0 q0 r9.Imports), (114, sF RTypeDecl i0 r0 r9.Types), (115, sF RDef j0 s0 r9.Templates), (116, sF REntryDecl k0 t0 r9.Entries), (117, sF RLexDecl l0 u0 r9.LexRules), (118, sF RDef m0 v0 r9.Rules), (119, sF RDef n0 x0 r9.Roots), (120, sF (Rep.list Rep.str) o0 y0 r9.Checks), (121, sF Rep.str g0 p0 r9.Drops)] a w) ?_ ?_
   ·obtain ⟨u6, Q0, hg⟩ := zB hg
    obtain ⟨b1, h3, hg⟩ := zB hg
    refine S s<|bw<|sw<|lw<|mw q<|mw q<|mw q fun a s => ?_
    obtain ⟨D5, w2, E2, I2, O4, s2, o2⟩ := SlR.elemX (s.ft 103 q) Q0
    refine qq s q (eL 1 D0 s u25 w2 (lt_of_get Q0) q) fun a s => ?_
    obtain ⟨rfl, x5⟩ := s2
    refine qq s q (lP s E2 I2 (o2 0 _ q) u9 q) fun a s => ?_
    refine lC s q func16 (c_r22_Visible n _ _ s.lt _ _ _ (s.ft 101 q) _ (by omega) _ h3) fun X5 a w hK hp s => ?_
    obtain ⟨o1, I1, rfl, y3⟩ := hp
    obtain ⟨U3, i3, hg⟩ := zB hg
    obtain ⟨w6, a1, hg⟩ := zB hg
    obtain ⟨R0, j3, hg⟩ := zB hg
    refine S s<|nsw 157 y3<|aw q<|nw<|sw<|lw<|mw q<|mw q<|mw q<|mw q fun a s => ?_
    obtain ⟨E5, x2, F2, J2, P4, t2, p2⟩ := SlR.elemX (s.ft 103 q) Q0
    refine qq s q (eL 1 D0 s u25 x2 (lt_of_get Q0) q) fun a s => ?_
    obtain ⟨rfl, y5⟩ := t2
    refine qq s q (lP s F2 J2 (p2 0 _ q) u9 q) fun a s => ?_
    refine lV s q func28 (c_r22_find n _ _ s.lt _ _ _ (s.ft 101 q) _ (by omega) _ i3) fun a w hK s => ?_
    obtain ⟨F5, y2, G2, K2, Q4, u2, q2⟩ := SlR.elemX (s.ft 101 q) (ix_some a1).1
    refine qq s q (y_elem (sz := 10) (i := ((U3).toNat)) s q q u22 q y2 (ix_some a1).2.1 (lt_of_get (ix_some a1).1)) fun a s => ?_
    obtain ⟨c4, C4, d4, D4, e4, E4, g4, F4, h4, G4, i4, H4, j4, I4, k4, J4, b4, B4, rfl, z5, Y2, Z2, a3, b3, c3, d3, e3, g3, X2⟩ := RModule.open u2
    refine S s<|nsw 168 Y2<|nsw 169 Z2<|nsw 170 a3<|nsw 171 b3<|nsw 172 c3<|nsw 173 d3<|nsw 174 e3<|nsw 175 g3<|nsw 176 X2<|yw q (y_ldp · q G2 K2 (by simpa using q2) u38 q q) fun a s => ?_
    refine lC s q func46 (c_r22_used n _ _ s.lt _ _ _ _ _ _ _ _ _ _ _ _ _ _ _ _ _ _ _ (by omega) (s.ft 168 q) (s.ft 169 q) (s.ft 170 q) (s.ft 171 q) (s.ft 172 q) (s.ft 173 q) (s.ft 174 q) (s.ft 175 q) (s.ft 176 q) _ j3) fun Y5 a w hK hp s => ?_
    obtain ⟨p1, J1, rfl, J3⟩ := hp
    refine S s<|nsw 177 J3<|aw q<|nw<|vw<|aw q<|nw<|bw fun a s => ?_
    refine c_loop (σ := Nat) (fun m2 a w => ∃ (I0 : Nat), r22_Link_L1 n d2 b1 R0 m2 I0 = some r ∧ St (cx f18 M w0) [(0, sl z0 t_ C0), (4, vP b2 0), (6, sl E0 r3.1 F0), (8, vP B0 0), (9, vI (((D0 : Nat) : Int))), (10, sl o1 b1 I1), (11, sl p1 R0 J1), (12, vI (((I0 : Nat) : Int)))] [(1000, Ob.box b2 [vT ([]), nS, nS, nS, nS, nS, nS, nS, nS, nS] 38), (1404, Ob.box B0 [vT r9.Name, sl h0 r9.Imports q0, sl i0 r9.Types r0, sl j0 r9.Templates s0, sl k0 r9.Entries t0, sl l0 r9.LexRules u0, sl m0 r9.Rules v0, sl n0 r9.Roots x0, sl o0 r9.Checks y0, sl g0 r9.Drops p0] 38)] [(101, sF RModule z0 C0 t_), (103, sF Rep.str E0 F0 r3.1), (113, sF Rep.str h0 q0 r9.Imports), (114, sF RTypeDecl i0 r0 r9.Types), (115, sF RDef j0 s0 r9.Templates), (116, sF REntryDecl k0 t0 r9.Entries), (117, sF RLexDecl l0 u0 r9.LexRules), (118, sF RDef m0 v0 r9.Rules), (119, sF RDef n0 x0 r9.Roots), (120, sF (Rep.list Rep.str) o0 y0 r9.Checks), (121, sF Rep.str g0 p0 r9.Drops), (157, sF Rep.str o1 I1 b1), (177, sF Rep.str p1 J1 R0)] a w) (fun m2 => m2) n ⟨(0), hg, (s.sb q q q)⟩ ?_
    clear s a; rintro m2 a w ⟨I0, hg, s⟩
    rcases m2 with _ | m2
    ·rw [r22_Link_L1] at hg; cases hg
    rw [r22_Link_L1] at hg
    refine S s<|sw<|vw<|mw q<|mw q<|yw q (lS · q u25)<|yw q (y_lssN (i := I0) (j := ((R0).length)) · q q)<|nw fun a s => c_dec s q (fun U0 => ?_) (fun U0 => ?_)
    ·replace hg := br_t hg U0
     have v5 := SlR.mx (s.ft 177 q)
     obtain ⟨x6, a2, hg⟩ := zB hg
     obtain ⟨H5, k3, hg⟩ := zB hg
     refine S s<|kw<|pw<|sw<|bw<|sw<|lw<|mw q<|mw q<|mw q fun a s => ?_
     obtain ⟨G5, z2, H2, L2, R4, v2, r2⟩ := SlR.elemX (s.ft 177 q) a2
     refine qq s q (eL 1 I0 s u25 z2 (lt_of_get a2) q) fun a s => ?_
     obtain ⟨rfl, B5⟩ := v2
     refine qq s q (lP s H2 L2 (r2 0 _ q) u9 q) fun a s => ?_
     refine lV s q func47 (c_r22_has n _ _ s.lt _ _ _ (s.ft 157 q) _ (by omega) _ k3) fun a w hK s => ?_
     refine S s<|yw q (y_not · q)<|nw fun a s => c_cond s q (fun V0 => ?_) (fun V0 => ?_)
     ·replace hg := br_t hg V0
      refine S s<|vw<|yw q (y_build (parts := []) (ps := []) (cells := #[vT ([]), nS, nS, nS, nS, nS, nS, nS, nS, nS]) · q (by kernel_rfl)) fun a s => ?_
      refine l_seq q (l_store (n := 10) (cs' := [vT ([]), nS, nS, nS, nS, nS, nS, nS, nS, nS]) s 1000 q q q q q q q q ?_); clear s; intro w hK s; clear hK
      refine S s<|aw q<|nw fun a s => ?_
      apply wp_ret
      refine p_inR ?_
      refine p_thenR ?_
      refine p_thenR ?_
      refine p_inR ?_
      refine p_inR ?_
      refine p_thenR ?_
      refine p_thenR ?_
      refine p_inR ?_
      refine p_thenR ?_
      obtain rfl := si hg
      refine fin2 (fn := Tryz.f18) s q (r_cell (kk := 1000) (n := 10) (vs := [vT ([]), nS, nS, nS, nS, nS, nS, nS, nS, nS]) s q q u38 q q q q) (r_tmp s q) ?_
      exact ⟨(none), (0), (none), (0), (none), (0), (none), (0), (none), (0), (none), (0), (none), (0), (none), (0), (none), (0), q, lz, (SlR.nil_ _ _ _), (SlR.nil_ _ _ _), (SlR.nil_ _ _ _), (SlR.nil_ _ _ _), (SlR.nil_ _ _ _), (SlR.nil_ _ _ _), (SlR.nil_ _ _ _), (SlR.nil_ _ _ _), (SlR.nil_ _ _ _)⟩
     replace hg := br_n hg V0
     apply wp_skip
     refine p_inN ?_
     refine S s<|pw<|lw<|mw q<|yw q (y_addN (i := I0) (j := 1) · q q (in64.2 (by omega)))<|aw q<|nw fun a s => ?_
     exact ⟨m2, Nat.lt_succ_self _, ⟨(I0 + 1), hg, (s.sb q q q)⟩⟩
    replace hg := br_f hg U0
    apply wp_exit
    refine p_then ?_
    refine p_then ?_
    refine p_in ?_
    refine p_inN ?_
    apply pN
    exact ⟨hg, (s.sb q q q)⟩
   clear s a; rintro a w ⟨hg, s⟩
   subst C2
   refine S s<|lw<|mw q<|yw q (y_addN (i := D0) (j := 1) · q q (in64.2 (by omega)))<|aw q<|nw fun a s => ?_
   exact ⟨m1, Nat.lt_succ_self _, ⟨(D0 + 1), hg, (s.sb q q q)⟩⟩
  replace hg := br_f hg T0
  apply wp_exit
  refine p_then ?_
  refine p_then ?_
  refine p_in ?_
  apply pN
  exact ⟨hg, (s.sb q q q)⟩
 clear s a; rintro a w ⟨hg, s⟩
 subst B2
 apply wR
 refine qq s q (y_loadAll (kk := 1404) s q q u38 q q) fun a s => ?_
 refine l_seq q (l_store (n := 10) (cs' := [vT r9.Name, sl h0 r9.Imports q0, sl i0 r9.Types r0, sl j0 r9.Templates s0, sl k0 r9.Entries t0, sl l0 r9.LexRules u0, sl m0 r9.Rules v0, sl n0 r9.Roots x0, sl o0 r9.Checks y0, sl g0 r9.Drops p0]) s 1000 q q q q q q q q ?_); clear s; intro w hK s; clear hK
 refine S s<|aw q<|nw fun a s => ?_
 apply wp_ret
 obtain rfl := si hg
 refine fin2 (fn := Tryz.f18) s q (r_cell (kk := 1000) (n := 10) (vs := [vT r9.Name, sl h0 r9.Imports q0, sl i0 r9.Types r0, sl j0 r9.Templates s0, sl k0 r9.Entries t0, sl l0 r9.LexRules u0, sl m0 r9.Rules v0, sl n0 r9.Roots x0, sl o0 r9.Checks y0, sl g0 r9.Drops p0]) s q q u38 q q q q) (r_tmp s q) ?_
 exact ⟨(h0), (q0), (i0), (r0), (j0), (s0), (k0), (t0), (l0), (u0), (m0), (v0), (n0), (x0), (o0), (y0), (g0), (p0), q, (by omega), (s.out (k := 113) q), (s.out (k := 114) q), (s.out (k := 115) q), (s.out (k := 116) q), (s.out (k := 117) q), (s.out (k := 118) q), (s.out (k := 119) q), (s.out (k := 120) q), (s.out (k := 121) q)⟩
end Go.Proofs.YtbhjplflnkidgaaGreat
