/- Chapter 22: the walk of ModuleLinks -/
import Derived.Test.YtbhjplflnkidgaaGreatAU
import Derived.Test.YtbhjplflnkidgaaGreatWEx
import Derived.Test.YtbhjplflnkidgaaGreatWRLink
import Derived.Test.YtbhjplflnkidgaaGreatWSMod
namespace Go.Proofs.YtbhjplflnkidgaaGreat
open Go.Gl Go.RowKit Tryz
set_option linter.unusedVariables false
set_option linter.unusedSimpArgs false
set_option maxRecDepth 4000
set_option maxHeartbeats 1000000
theorem c_law22_ModuleLinks (n : Nat) (M : Bs) (w0 : World) (hM : bM M w0) (l_ : (List Module)) (h0 : OA) (i0 : Nat) (Y0 : sR RModule M w0 h0 i0 l_) (main_ : (List UInt8)) (C1 : (main_).length ≤ 9223372036854775807) (r : Bool) (hg : law22_ModuleLinks n l_ main_ = some r) :
    CA Tryz.prog 5 [sl h0 l_ i0, vT main_] w0 (fun v w => v = .bool (r)) := by
 unfold law22_ModuleLinks at hg
 refine enter M noB func5 q q hM ?_
 intro a s
 obtain ⟨r1, Z0, hg⟩ := zB hg
 refine S s<|esw 101 Y0<|vw<|aw q<|nw<|sw<|sw<|lw<|mw q fun a s => ?_
 refine lV s q func10 (c_law22_light n _ _ s.lt _ _ _ (s.ft 101 q) _ Z0) fun a w hK s => ?_
 refine S s<|yw q (y_not · q)<|nw fun a s => c_cond s q (fun g0 => ?_) (fun g0 => ?_)
 ·replace hg := br_t hg g0
  obtain ⟨r7, d1, hg⟩ := zB hg
  apply wQ
  apply wL
  refine lV s q func11 (c_law22_exampleHolds n _ _ s.lt  _ d1) fun a w hK s => ?_
  refine S s<|aw q<|nw fun a s => ?_
  apply wp_ret
  refine p_thenR ?_
  obtain rfl := si hg
  exact fT f5 s q q q
 replace hg := br_n hg g0
 obtain ⟨a0, a1, hg⟩ := zB hg
 refine S s<|kw<|pw<|sw<|lw<|mw q<|mw q fun a s => ?_
 refine lC s q func17 (c_module_Link n _ _ s.lt _ _ _ (s.ft 101 q) _ (by omega) _ a1) fun G1 a w hK hp s => ?_
 obtain ⟨l0, F0, m0, G0, n0, H0, o0, I0, p0, J0, q0, K0, r0, L0, s0, M0, k0, E0, rfl, D1, g1, h1, i1, j1, k1, l1, m1, n1, e1⟩ := hp
 refine S s<|nsw 111 g1<|nsw 112 h1<|nsw 113 i1<|nsw 114 j1<|nsw 115 k1<|nsw 116 l1<|nsw 117 m1<|nsw 118 n1<|nsw 119 e1<|mw q<|yw q (y_extract · q q)<|yw q (y_extract · q q) fun a s => ?_
 refine l_seq q (l_alloc (zs := [vT ([]), nS, nS, nS, nS, nS, nS, nS, nS, nS]) s 1306 q q q q fun z1 a w hb hK s => ?_)
 refine l_seq q (l_store (n := 10) (cs' := [vT a0.1.Name, sl l0 a0.1.Imports F0, sl m0 a0.1.Types G0, sl n0 a0.1.Templates H0, sl o0 a0.1.Entries I0, sl p0 a0.1.LexRules J0, sl q0 a0.1.Rules K0, sl r0 a0.1.Roots L0, sl s0 a0.1.Checks M0, sl k0 a0.1.Drops E0]) s 1306 q q q q q q q q ?_); clear s; intro w hK s; clear hK
 obtain ⟨b0, b1, hg⟩ := zB hg
 refine S s<|aw q<|nw<|sw<|lw<|mw q<|mw q fun a s => ?_
 refine lC s q func18 (c_r22_Link n _ _ s.lt _ _ _ (s.ft 101 q) _ (by omega) _ b1) fun H1 a w hK hp s => ?_
 obtain ⟨u0, P0, v0, Q0, x0, R0, y0, S0, z0, T0, B0, U0, C0, V0, D0, X0, t0, O0, rfl, E1, p1, q1, s1, t1, u1, v1, w1, x1, o1⟩ := hp
 refine S s<|nsw 129 p1<|nsw 130 q1<|nsw 131 s1<|nsw 132 t1<|nsw 133 u1<|nsw 134 v1<|nsw 135 w1<|nsw 136 x1<|nsw 137 o1<|mw q<|yw q (y_extract · q q)<|yw q (y_extract · q q) fun a s => ?_
 refine l_seq q (l_alloc (zs := [vT ([]), nS, nS, nS, nS, nS, nS, nS, nS, nS]) s 1406 q q q q fun B1 a w hb hK s => ?_)
 refine l_seq q (l_store (n := 10) (cs' := [vT b0.1.Name, sl u0 b0.1.Imports P0, sl v0 b0.1.Types Q0, sl x0 b0.1.Templates R0, sl y0 b0.1.Entries S0, sl z0 b0.1.LexRules T0, sl B0 b0.1.Rules U0, sl C0 b0.1.Roots V0, sl D0 b0.1.Checks X0, sl t0 b0.1.Drops O0]) s 1406 q q q q q q q q ?_); clear s; intro w hK s; clear hK
 refine S s<|aw q<|nw<|sw fun a s => ?_
 rcases Decidable.em (a0.2 = b0.2) with c0 | c0
 ·have e0 := decide_eq_true c0
  replace hg := br_t hg c0
  obtain ⟨y1, j0, hg⟩ := zB hg
  rcases Bool.eq_false_or_eq_true (y1) with d0 | d0
  ·replace hg := br_t hg d0
   obtain ⟨F1, c1, hg⟩ := zB hg
   refine S s<|lw<|mw q<|mw q<|yw q (fun s => yl_b (y_eql s q q) e0)<|mw q<|zw q (y_loadAll (kk := 1306) · q q u38 q q)<|zw q (y_loadAll (kk := 1406) · q q u38 q q) fun a s => ?_
   refine gC s q func19 (c_r21_SameModule n _ _ s.lt _ _ _ _ _ _ _ _ _ _ _ _ _ _ _ _ _ _ _ (by omega) (s.ft 111 q) (s.ft 112 q) (s.ft 113 q) (s.ft 114 q) (s.ft 115 q) (s.ft 116 q) (s.ft 117 q) (s.ft 118 q) (s.ft 119 q) _ _ _ _ _ _ _ _ _ _ _ _ _ _ _ _ _ _ _ (by omega) (s.ft 129 q) (s.ft 130 q) (s.ft 131 q) (s.ft 132 q) (s.ft 133 q) (s.ft 134 q) (s.ft 135 q) (s.ft 136 q) (s.ft 137 q) _ j0) fun I1 a w hK hp s => ?_
   obtain rfl := hp.trans (congrArg Value.bool d0)
   refine S s<|tw_ q<|mw q fun a s => ?_
   refine gV s q func11 (c_law22_exampleHolds n _ _ s.lt  _ c1) fun a w hK s => ?_
   refine S s<|tw_ q<|aw q<|nw fun a s => ?_
   apply wp_ret
   obtain rfl := si hg
   exact fT f5 s q q q
  replace hg := br_n hg d0
  refine S s<|lw<|mw q<|mw q<|yw q (fun s => yl_b (y_eql s q q) e0)<|mw q<|zw q (y_loadAll (kk := 1306) · q q u38 q q)<|zw q (y_loadAll (kk := 1406) · q q u38 q q) fun a s => ?_
  refine gC s q func19 (c_r21_SameModule n _ _ s.lt _ _ _ _ _ _ _ _ _ _ _ _ _ _ _ _ _ _ _ (by omega) (s.ft 111 q) (s.ft 112 q) (s.ft 113 q) (s.ft 114 q) (s.ft 115 q) (s.ft 116 q) (s.ft 117 q) (s.ft 118 q) (s.ft 119 q) _ _ _ _ _ _ _ _ _ _ _ _ _ _ _ _ _ _ _ (by omega) (s.ft 129 q) (s.ft 130 q) (s.ft 131 q) (s.ft 132 q) (s.ft 133 q) (s.ft 134 q) (s.ft 135 q) (s.ft 136 q) (s.ft 137 q) _ j0) fun J1 a w hK hp s => ?_
  obtain rfl := hp.trans (congrArg Value.bool d0)
  refine S s<|tw_ q<|mw q<|gw q<|fw q<|aw q<|nw fun a s => ?_
  apply wp_ret
  obtain rfl := si hg
  exact fT f5 s q q q
 have e0 := decide_eq_false c0
 replace hg := br_f hg c0
 refine S s<|lw<|mw q<|mw q<|yw q (fun s => yl_b (y_eql s q q) e0)<|mw q<|gw q<|gw q<|gw q<|fw q<|mw q<|gw q<|fw q<|aw q<|nw fun a s => ?_
 apply wp_ret
 obtain rfl := si hg
 exact fT f5 s q q q
end Go.Proofs.YtbhjplflnkidgaaGreat
